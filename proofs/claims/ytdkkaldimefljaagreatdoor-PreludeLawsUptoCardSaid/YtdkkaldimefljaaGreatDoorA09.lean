import Derived.Test.YtdkkaldimefljaaGreatDoorA08
import Derived.Orders
set_option linter.all false
namespace Go.AM
section
variable {P:Program}{ans:FuncId->AK}{an:AK}{R:Type}{r:R}
variable {tm:List Slot}{rs:RS}{ops:Array Oper}{cf:aO}{o a:Oper}{rid i j:Nat}{g:AN->AN}
def One(P:Program)(ans:FuncId->AK)(an:AK)(cf:aO)(tm:List Slot)(rid:Nat)(ops:Array Oper)(o:Oper)(i:Nat)(rs rs':RS):Prop :=
 ∀(R2:Type)(next:RS->Option R2),gG P ans an true cf tm rid ops (λ_ _=>none) o i rs next=next rs'
structure pf (an:AK) (rid:Nat) (ops:Array Oper) (o:Oper):Prop where
 un:xh an rid o=true
 mem:o∈ops.toList
 dst:∀d,o.dst=some d->an.loc.contains d=true->∀o'∈ops.toList,eW o'≠some d
def Nh(an:AK)(rid:Nat)(sc:List (Nat×Slot)):Prop:=∀p∈an.apart,Nat.beq p.1 rid=true->bL sc p.2.1=none/\bL sc p.2.2=none
theorem aB1{keep:List Nat}{tk:Bool}{t:Nat}(h:t∈cons keep tk o):t∈cons keep true o:=by
 unfold cons at h ⊢
 split at h<;>simp_all
theorem th{s:Slot}{i:Nat}(h:tg s=some i):∃x,s=.val (.loc i x):=by
 unfold tg at h
 split at h
 ·cases h;exact⟨_,rfl⟩
 ·cases h
theorem aBK{s t:Slot}(h:gf s t=true):∃i j x y,s=.val (.loc i x)/\t=.val (.loc j y)/\i≠j:=by
 unfold gf at h
 split at h
 ·rename_i i j h1 h2
  obtain⟨x,rfl⟩:=th h1;obtain⟨y,rfl⟩:=th h2;exact⟨i,j,x,y,rfl,rfl,λe=>by subst e;simp at h⟩
 ·cases h
theorem aAb(h:sT an rid tm=true){p:Nat×Nat×Nat}(hp:p∈an.apart)(hr:Nat.beq p.1 rid=true):∃i j x y,tlook an.keep tm p.2.1=.val (.loc i x)/\tlook an.keep tm p.2.2=.val (.loc j y)/\i≠j:=by
 have:=An.1 h p hp
 rw[hr] at this;exact aBK (by simpa using this)
theorem aAS{AF tk:Bool}{puts:List (Nat×Slot)}(hE:EffO ans an tm ops AF tk o rs puts g){u i x:Nat}(hl:tlook an.keep tm u=.val (.loc i x))(hn:bL rs.sc u=none)(h1:u∉o.dst.toList++cons an.keep true o):bL (puts++rs.sc) u=none:=by
 have hk:rs.look an.keep tm u=.val (.loc i x):=by unfold RS.look;rw[hn];exact hl
 rw[fK,xG λp hp e=>?_]
 ·exact hn
 ·subst e
  rcases hE.keys p hp with h|h|⟨_,c,c',h,_⟩|⟨_,c,c',h,_⟩|⟨_,b,_,h⟩
  ·exact h1 (List.mem_append_left _ h)
  ·exact h1 (Ho _ (aB1 h))
  ·rw[hk] at h;cases h
  ·rw[hk] at h;cases h
  ·rw[hk] at h;cases h
theorem EffO.nop{AF tk:Bool}{puts:List (Nat×Slot)}(hE:EffO ans an tm ops AF tk o rs puts g)(ER:sT an rid tm=true)(hu:xh an rid o=true)(h:Nh an rid rs.sc):Nh an rid (puts++rs.sc):=λp hp hr=>by
 obtain⟨i,j,x,y,h1,h2,_⟩:=aAb ER hp hr;have hf:=An.1 hu p hp;rw[hr] at hf;simp only[Fw,Fx,Ac,Cd,List.contains_eq_mem,Av] at hf;exact⟨aAS hE h1 (h p hp hr).1 hf.1,aAS hE h2 (h p hp hr).2 hf.2⟩
theorem uI(DC:iK ans cf)(hn:noRef tm)(ER:sT an rid tm=true)(ho:pf an rid ops o){next:RS->Option R}{rs2:RS}(hq:RSeq rs rs2)(hR:RefIn ops rs)(e:gG P ans an true cf tm rid ops (λ_ _=>none) o i rs next=some r) :
  ∃rs' EF,One P ans an cf tm rid ops o i rs rs'/\One P ans an cf tm rid ops o i rs2 EF/\RSeq rs' EF/\RefIn ops rs'/\next rs'=some r/\(Nh an rid rs.sc->Nh an rid rs'.sc):=by
 obtain⟨puts',g',e1',OH,hE'⟩:=nU DC hn ho.mem ho.dst (RSeq.refl rs).agrO hR hR e;have e2:=OH RS some;obtain⟨puts,g,e1,h2,hE⟩:=nU DC hn ho.mem ho.dst hq.agrO hR (hq.refIn hR) e2;refine⟨_,_,OH,h2,?_,hR.app hE'.ref,e1',hE'.nop ER ho.un⟩;rw[<-Ap e1];exact hq.app puts g
theorem agrSto.symm{c0:Cls}{s s':AN}(h:agrSto c0 s s'):agrSto c0 s' s:=by
 cases c0<;>first|trivial|exact stoAg.symm h|exact Eq.symm h
theorem EffO.effSto{AF tk:Bool}{puts:List (Nat×Slot)}(h:EffO ans an tm ops AF tk o rs puts g):AM.effSto (cN ans an.loc ops AF tk o) rs.sto (g rs.sto):=by
 have:=h.sto
 unfold AM.effSto
 split at this<;>simp_all
theorem EffO.effId{AF tk:Bool}{puts:List (Nat×Slot)}(h:EffO ans an tm ops AF tk o rs puts g)(hc:cN ans an.loc ops AF tk o=.p\/cN ans an.loc ops AF tk o=.r\/cN ans an.loc ops AF tk o=.c):g=id:=by
 have:=h.sto
 rcases hc with hc|hc|hc<;>(rw[hc] at this;exact this)
theorem aCt{ta tb po pa:Bool}{rs0:RS}{p1 p2:List (Nat×Slot)}{g1 g2:AN->AN}(h1:EffO ans an tm ops po ta o rs p1 g1)(h2:EffO ans an tm ops pa tb a rs0 p2 g2)(H1:vW an.keep an.loc ops ta tb o a)(H2:vW an.keep an.loc ops tb ta a o)
  (hrd:∀t,t∈FA ops o->t∈FA ops a->∀b,rs.look an.keep tm t=.val (.bool b)->rs0.look an.keep tm t=.val (.bool b)) (Sj:∀t c,t∈Hw an.loc ops a\/t∈G9 an.loc ops tb a->rs0.look an.keep tm t=.box c->∃c',rs.look an.keep tm t=.box c')
  (Pr:∀t c,t∈FA ops a->rs.look an.keep tm t=.box c->∃c',rs0.look an.keep tm t=.box c') {t:Nat} {s1 s2:Slot} (ha:bL p1 t=some s1) (hb:bL p2 t=some s2):s1=s2:=by
 have k1:=h1.keys _ (iL ha);have k2:=h2.keys _ (iL hb);simp only at k1 k2
 have dc:∀(k:t∈o.dst.toList\/t∈cons an.keep ta o),False:=λk=>by
  obtain⟨n1,n2,n3,n4⟩:=H1.hw t k;rcases k2 with k|k|⟨k,_⟩|⟨k,_⟩|⟨k,_⟩
  ·exact n3 k
  ·exact n4 k
  ·exact n2 (sO k)
  ·exact n2 (sJ k)
  ·exact n1 k
 have OJ:∀(k:t∈a.dst.toList\/t∈cons an.keep tb a),False:=λk=>by
  obtain⟨n1,n2,n3,n4⟩:=H2.hw t k;rcases k1 with k|k|⟨k,_⟩|⟨k,_⟩|⟨k,_⟩
  ·exact n3 k
  ·exact n4 k
  ·exact n2 (sO k)
  ·exact n2 (sJ k)
  ·exact n1 k
 rcases k1 with k|k|⟨k,c,c',e1,e2⟩|⟨k,c,c',e1,e2,e3⟩|⟨k,b,e1,e2⟩
 ·exact(dc (.inl k)).elim
 ·exact(dc (.inr k)).elim
 ·rcases k2 with m|m|⟨m,_⟩|⟨m,_⟩|⟨m,b',f1,f2⟩
  ·exact(OJ (.inl m)).elim
  ·exact(OJ (.inr m)).elim
  ·exact absurd (sO m) (H1.hb t k)
  ·exact absurd (sJ m) (H1.hb t k)
  ·obtain⟨c2,EO⟩:=Pr t c m e1
   rw[f2] at EO;cases EO
 ·rcases k2 with m|m|⟨m,_⟩|⟨m,_⟩|⟨m,b',f1,f2⟩
  ·exact(OJ (.inl m)).elim
  ·exact(OJ (.inr m)).elim
  ·exact absurd m (H1.ht t k).2
  ·exact absurd m (H1.ht t k).1
  ·obtain⟨c2,EO⟩:=Pr t c m e1
   rw[f2] at EO;cases EO
 ·rcases k2 with m|m|⟨m,c,c',f1,f2⟩|⟨m,c,c',f1,f2,f3⟩|⟨m,b',f1,f2⟩
  ·exact(OJ (.inl m)).elim
  ·exact(OJ (.inr m)).elim
  ·obtain⟨c2,EO⟩:=Sj t c (.inl m) f1
   rw[e2] at EO;cases EO
  ·obtain⟨c2,EO⟩:=Sj t c (.inr m) f1
   rw[e2] at EO;cases EO
  ·have:=hrd t k m b e2
   rw[f2] at this;cases this;rw[e1,f1]
theorem aDo{p1 p2 l:List (Nat×Slot)}(h:∀t s1 s2,bL p1 t=some s1->bL p2 t=some s2->s1=s2)(t:Nat):bL (p2++(p1++l)) t=bL (p1++(p2++l)) t:=by
 simp only[fK];cases h1:bL p1 t with
 |none=>cases h2:bL p2 t<;>rfl
 |some s1=>cases h2:bL p2 t with
  |none=>rfl
  |some s2=>simp only;rw[h t s1 s2 h1 h2]
theorem cu(c0:Cls)(s s':AN):agrSto c0 s s'=(match c0 with
  |.p=>True
  |.r=>stoAg s s'
  |_=>s'=s):=by cases c0<;>rfl
theorem comm(DC:iK ans cf)(hn:noRef tm)(ho:pf an rid ops o)(ha:pf an rid ops a){next:RS->Option R}(hR:RefIn ops rs)
  (B5:(cN ans an.loc ops (an.pure.contains (rid,i)) (an.take.contains (rid,i)) o).clash (cN ans an.loc ops (an.pure.contains (rid,j)) (an.take.contains (rid,j)) a)=false)
  (H1:vW an.keep an.loc ops (an.take.contains (rid,i)) (an.take.contains (rid,j)) o a) (H2:vW an.keep an.loc ops (an.take.contains (rid,j)) (an.take.contains (rid,i)) a o)
  (e:gG P ans an true cf tm rid ops (λ_ _=>none) o i rs (λrs'=>gG P ans an true cf tm rid ops (λ_ _=>none) a j rs' next)=some r) :
  ∃rs1 Jy rs2,next rs1=some r/\One P ans an cf tm rid ops a j rs Jy/\One P ans an cf tm rid ops o i Jy rs2/\RSeq rs1 rs2/\RefIn ops rs1:=by
 obtain⟨p1,g1,e1,k1,E1⟩:=nU DC hn ho.mem ho.dst (RSeq.refl rs).agrO hR hR e
 let SF:RS:=⟨p1++rs.sc,g1 rs.sto⟩
 have hRO:RefIn ops SF:=hR.app E1.ref;have Mo:=aCD B5 E1.effSto;have A1:AgrO ans an tm ops (an.pure.contains (rid,j)) (an.take.contains (rid,j)) a SF rs:=aBJ E1 H1 (Eq.mp (cu _ _ _) Mo);obtain⟨p2,g2,e2,k2,E2⟩:=nU DC hn ha.mem ha.dst A1 hRO hR e1
 let Jy:RS:=⟨p2++rs.sc,g2 rs.sto⟩
 have hRA:RefIn ops Jy:=hR.app E2.ref
 have hid:(∀p g,EffO ans an tm ops (an.pure.contains (rid,i)) (an.take.contains (rid,i)) o rs p g->g=id)\/g2=id:=by
  generalize WJ:cN ans an.loc ops (an.pure.contains (rid,i)) (an.take.contains (rid,i)) o=co at B5;generalize WL:cN ans an.loc ops (an.pure.contains (rid,j)) (an.take.contains (rid,j)) a=ca at B5;cases co with
  |p=>exact .inl λp g h=>h.effId (.inl WJ)
  |r=>exact .inl λp g h=>h.effId (.inr (.inl WJ))
  |c=>exact .inl λp g h=>h.effId (.inr (.inr WJ))
  |t=>cases ca with
   |p=>exact .inr (E2.effId (.inl WL))
   |r=>exact .inr (E2.effId (.inr (.inl WL)))
   |_=>simp[Cls.clash] at B5
  |w=>cases ca with
   |p=>exact .inr (E2.effId (.inl WL))
   |_=>simp[Cls.clash] at B5
  |x=>cases ca<;>simp[Cls.clash] at B5
 have VW:agrSto (cN ans an.loc ops (an.pure.contains (rid,i)) (an.take.contains (rid,i)) o) rs.sto (g2 rs.sto):=by
  rcases hid with h|h
  ·have h1:=h _ _ E1
   have h2:=E2.effSto;have hs:SF.sto=rs.sto:=by show g1 rs.sto=rs.sto;rw[h1];rfl
   rw[hs] at h2;generalize cN ans an.loc ops (an.pure.contains (rid,i)) (an.take.contains (rid,i)) o=co at B5;generalize cN ans an.loc ops (an.pure.contains (rid,j)) (an.take.contains (rid,j)) a=ca at B5 h2
   cases co<;>cases ca<;>first
    |trivial
    |(simp[Cls.clash] at B5;done)
    |exact h2
    |(have h':g2 rs.sto=rs.sto:=h2
      show stoAg rs.sto (g2 rs.sto);rw[h'];exact stoAg.refl _)
  ·rw[h]
   unfold agrSto;split
   ·trivial
   ·exact stoAg.refl _
   ·rfl
 have A2:AgrO ans an tm ops (an.pure.contains (rid,i)) (an.take.contains (rid,i)) o rs Jy:=xf E2 H2 (λu hu=>by
   refine⟨?_,λh=>A1.wb u h⟩;rcases hu with hu|hu|hu
   ·exact .inl (A1.wb u (.inl hu))
   ·exact .inl (A1.wb u (.inr hu))
   ·exact A1.rd u hu) (Eq.mp (cu _ _ _) VW)
 obtain⟨SK,Wd,e3,k3,E3⟩:=nU DC hn ho.mem ho.dst A2 hR hRA (k1 RS some);have he3:=Ap e3;have hp:SK=p1:=List.append_cancel_right (Ar RS.sc he3);have hg:Wd rs.sto=g1 rs.sto:=Ar RS.sto he3;subst hp;refine⟨⟨p2++(SK++rs.sc),g2 (g1 rs.sto)⟩,Jy,⟨SK++(p2++rs.sc),Wd (g2 rs.sto)⟩,e2,k2,k3,⟨λt=>aDo (λt s1 s2 h1 h2=>?_) t,?_⟩,hRO.app E2.ref⟩
 ·refine aCt (rs0:=SF) E1 E2 H1 H2 (λt _ ht b hb=>?_) (λt c h hc=>⟨c,(A1.wb t h).trans hc⟩) (λt c ht hc=>?_) h1 h2
  ·rcases A1.rd t ht with h|⟨c1,c2,_,h⟩
   ·rw[<-h];exact hb
   ·rw[h] at hb;cases hb
  ·rcases A1.rd t ht with h|⟨c1,c2,h,_⟩
   ·exact⟨c,h▸hc⟩
   ·exact⟨c1,h⟩
 ·show g2 (g1 rs.sto)=Wd (g2 rs.sto)
  rcases hid with h|h
  ·rw[h _ _ E1,h _ _ E3];rfl
  ·rw[h];exact hg.symm
theorem aAF{loc:List Nat}{u:Nat}(h:Tl loc o=some u):∃d t ty pos AH,o=⟨some d,.load t (.tmp u),ty,pos,AH,none⟩/\loc.contains d=false:=by
 obtain⟨dst,op,ty,pos,AH,gd⟩:=o;unfold Tl at h
 split at h
 ·rename_i d t u' h1 h2 h3
  simp only at h1 h2 h3;subst h1 h2 h3;cases hl:loc.contains d with
  |true=>rw[hl] at h;cases h
  |false=>rw[hl] at h;cases h;exact⟨d,_,ty,pos,AH,rfl,hl⟩
 ·cases h
theorem df{s:Slot}{rs2:RS}{d:Nat}{op:Op}{ty:TypeId}{pos:String}{AH:Array Edge}{gd:Option (Nat×Bool)}(hd:an.loc.contains d=false):dK an ⟨some d,op,ty,pos,AH,gd⟩ s rs2=dK an ⟨some d,op,ty,pos,AH,gd⟩ s rs:=by
 simp only[dK,hd,Gj,Bool.true_or]
theorem take_one{t:TypeId}{u d p x:Nat}{ty:TypeId}{pos:String}{AH:Array Edge}{next:RS->Option R}(hu:bL rs.sc u=none)(hl:tlook an.keep tm u=.val (.loc p x))(hd:an.loc.contains d=false)(GW:an.take.contains (rid,i)=true)
  (e:gG P ans an true cf tm rid ops (λ_ _=>none) ⟨some d,.load t (.tmp u),ty,pos,AH,none⟩ i rs next=some r) :
  ∃(s:Slot)(G:List AObj->List AObj),(G=id\/∃X,G=λl=>l.set p X)/\(∀u' x',s≠.ref u' x')/\next ⟨(d,s)::rs.sc,⟨G rs.sto.objs,rs.sto.lo⟩⟩=some r /\
   ∀rs2:RS,bL rs2.sc u=none->rs2.sto.objs[p]?=rs.sto.objs[p]?->rs2.sto.lo=rs.sto.lo->One P ans an cf tm rid ops ⟨some d,.load t (.tmp u),ty,pos,AH,none⟩ i rs2 ⟨(d,s)::rs2.sc,⟨G rs2.sto.objs,rs2.sto.lo⟩⟩:=by
 have hlk:∀rs2:RS,bL rs2.sc u=none->rs2.look an.keep tm u=.val (.loc p x):=λrs2 h=>by unfold RS.look;rw[h];exact hl
 have BV:∀(rs2:RS),bL rs2.sc u=none->∀(R2:Type)(k2:RS->Option R2),gG P ans an true cf tm rid ops (λ_ _=>none) ⟨some d,.load t (.tmp u),ty,pos,AH,none⟩ i rs2 k2 =
   bG true (eY an.loc ops.toList ops.size (.tmp u)) (.obj p x) (aQ an.keep tm rs2 (.obj p x) λcs off=>(bA P t).bind λs=>(bO P t).bind λagg=>loadT true agg s rs2 (.obj p x) cs off λs rs'=>aL (dK an ⟨some d,.load t (.tmp u),ty,pos,AH,none⟩ s rs') (k2 (rs'.putO (some d) s))):=λrs2 h R2 k2=>by
  simp only[gG,aD,A9,hlk rs2 h,dE,GW,addrOf];rfl
 rw[BV rs hu] at e;simp only[bG] at e;obtain⟨hr,e⟩:=aB e;simp only[aQ] at e;obtain⟨cs,CI,e⟩:=xQ e;obtain⟨s,hs,e⟩:=aC e;obtain⟨agg,DO,e⟩:=aC e;by_cases hp:agg=true\/∀sz xs,cs[x]?≠some (.own sz xs)
 ·rw[eN (.inr hp)] at e
  obtain⟨v,e,h3⟩:=oX e;obtain⟨hg,e⟩:=aB e;refine⟨.val v,id,.inl rfl,by simp,e,λrs2 h1 h2 h4 R2 k2=>?_⟩;rw[BV rs2 h1];simp only[bG,aF hr,aQ,h2,CI,iG,hs,DO,Ai];rw[eN (.inr hp),h3];rw[aF ((df hd).trans hg)];rfl
 ·have hag:agg=false:=by cases agg<;>simp_all
  obtain⟨sz,xs,CK⟩:∃sz xs,cs[x]?=some (.own sz xs):=by
   apply Fl;intro hn;exact hp (.inr λsz xs hh=>hn ⟨sz,xs,hh⟩)
  subst hag;simp only[loadT,CK] at e;obtain⟨hg,e⟩:=aB e;simp only[bQ] at e;obtain⟨DX,e⟩:=aB e;obtain⟨L4,e⟩:=aB e;refine⟨.own sz xs,λl=>l.set p (.box (cs.set x (.val (.slice xs)))),.inr ⟨_,rfl⟩,by simp,e,λrs2 h1 h2 h4 R2 k2=>?_⟩;rw[BV rs2 h1];simp only[bG,aF hr,aQ,h2,CI,iG,hs,DO,Ai,loadT,CK,aF hg,bQ,h4,aF DX];rw[aF ((df hd).trans L4)];simp only[RS.putO,RS.put,h4]
theorem dy{G:List AObj->List AObj}{p q:Nat}(h:G=id\/∃X,G=λl=>l.set p X)(EX:p≠q)(l:List AObj):(G l)[q]?=l[q]?:=by
 rcases h with rfl|⟨X,rfl⟩
 ·rfl
 ·exact Ek EX
theorem aCy{F G:List AObj->List AObj}{p q:Nat}(h:F=id\/∃X,F=λl=>l.set p X)(k:G=id\/∃X,G=λl=>l.set q X)(EX:p≠q)(l:List AObj):G (F l)=F (G l):=by
 rcases h with rfl|⟨X,rfl⟩
 ·rfl
 ·rcases k with rfl|⟨Y,rfl⟩
  ·rfl
  ·exact List.set_comm _ _ EX
theorem aLc(ER:sT an rid tm=true)(Je:TX an rid (an.take.contains (rid,i)) (an.take.contains (rid,j)) o a=true){next:RS->Option R}(hR:RefIn ops rs)(hN:Nh an rid rs.sc)
  (H1:vW an.keep an.loc ops (an.take.contains (rid,i)) (an.take.contains (rid,j)) o a) (H2:vW an.keep an.loc ops (an.take.contains (rid,j)) (an.take.contains (rid,i)) a o)
  (e:gG P ans an true cf tm rid ops (λ_ _=>none) o i rs (λrs'=>gG P ans an true cf tm rid ops (λ_ _=>none) a j rs' next)=some r) :
  ∃rs1 Jy rs2,next rs1=some r/\One P ans an cf tm rid ops a j rs Jy/\One P ans an cf tm rid ops o i Jy rs2/\RSeq rs1 rs2/\RefIn ops rs1:=by
 unfold TX at Je
 split at Je
 case h_2=>cases Je
 rename_i u v hu hv;simp only[Ac] at Je;obtain⟨⟨ti,tj⟩,WT⟩:=Je;obtain⟨pp,hpm,PY⟩:=List.any_eq_true.1 WT;simp only[Ac] at PY;obtain⟨DD,EP,Ir⟩:=PY;obtain⟨n1,n2⟩:=hN pp hpm DD;obtain⟨p,q,x,y,l1,l2,EX⟩:=aAb ER hpm DD;rw[Aa EP] at n1 l1;rw[Aa Ir] at n2 l2;obtain⟨d1,t1,Ob,pos1,aft1,rfl,IC⟩:=aAF hu;obtain⟨d2,t2,ty2,pos2,aft2,rfl,NN⟩:=aAF hv;have h1:=H1.hw d1 (.inl (by simp));have h2:=H2.hw d2 (.inl (by simp));have WH:d1≠v:=λe=>h1.1 (by subst e;simp[FA,Op.operands])
 have hdu:d2≠u:=λe=>h2.1 (by subst e;simp[FA,Op.operands])
 have MO:d1≠d2:=λe=>h1.2.2.1 (by simp[e])
 have bq:∀{m n:Nat},m≠n->Nat.beq m n=false:=λ{m n} h=>by
  cases hb:Nat.beq m n with
  |false=>rfl
  |true=>exact absurd (Aa hb) h
 obtain⟨s1,G1,g1,r1,e1,f1⟩:=take_one n1 l1 IC ti e;obtain⟨s2,G2,g2,r2,e2,f2⟩:=take_one (by simp only[bL,bq WH,Aq];exact n2) l2 NN tj e1;refine⟨_,_,_,e2,f2 rs n2 (dy g1 EX _).symm rfl,f1 ⟨(d2,s2)::rs.sc,⟨G2 rs.sto.objs,rs.sto.lo⟩⟩ (by simp only[bL,bq hdu,Aq];exact n1) (dy g2 (Co EX) _) rfl,⟨λt=>?_,?_⟩,λt u' x' h=>?_⟩
 ·simp only[bL]
  by_cases k1:d1=t
  ·subst k1
   rw[bq (Co MO)];rfl
  ·rw[bq k1];rfl
 ·show(⟨G2 (G1 rs.sto.objs),rs.sto.lo⟩:AN)=⟨G1 (G2 rs.sto.objs),rs.sto.lo⟩
  rw[aCy g1 g2 EX]
 ·simp only[bL] at h
  cases k2:Nat.beq d2 t with
  |true=>rw[k2] at h;cases h;exact absurd rfl (r2 _ _)
  |false =>
   rw[k2] at h;cases k1:Nat.beq d1 t with
   |true=>rw[k1] at h;cases h;exact absurd rfl (r1 _ _)
   |false=>rw[k1] at h;exact hR t u' x' h
end
section
variable {P:Program}{ans:FuncId->AK}{an:AK}{R:Type}{r:R}
variable {tm:List Slot}{rs:RS}{ops:Array Oper}{cf:aO}{o a:Oper}{rid i j:Nat}
structure Fit (ans:FuncId->AK) (an:AK) (rid:Nat) (ops:Array Oper):Prop where
 ok:∀(i:Nat)(o:Oper),ops[i]?=some o->pf an rid ops o
 edge:∀(i:Nat)(o:Oper),ops[i]?=some o->∀e∈o.after.toList,Region.binds .any e=true->e.on<i
 free:∀(i j:Nat)(a b:Oper),i<j->ops[i]?=some a->ops[j]?=some b->((Region.before ops).getD j 0).testBit i=true \/
  (((cN ans an.loc ops (an.pure.contains (rid,i)) (an.take.contains (rid,i)) a).clash (cN ans an.loc ops (an.pure.contains (rid,j)) (an.take.contains (rid,j)) b)=false\/TX an rid (an.take.contains (rid,i)) (an.take.contains (rid,j)) a b=true) /\
    vW an.keep an.loc ops (an.take.contains (rid,i)) (an.take.contains (rid,j)) a b/\vW an.keep an.loc ops (an.take.contains (rid,j)) (an.take.contains (rid,i)) b a)
theorem aLt(h1:tH ans an rid ops=true)(h2:Ma ans an rid ops=true):Fit ans an rid ops:=by
 have hx:∀(i:Nat)(o:Oper),ops[i]?=some o->(o.after.all (λe=>!Region.binds .any e||Nat.blt e.on i)=true /\
   (match o.dst with|some d=>!an.loc.contains d||ops.all (λo=>match eW o with|some t=>!Nat.beq t d|none=>true)|none=>true)=true):=λi o ho=>by
  have AR:i<ops.size:=(Ad.1 ho).1;have OH:=(Dm.1 h2).2
  have:=An.1 OH i (Cq.2 AR)
  rw[ho] at this;simp only[Ac] at this;exact⟨this.1.2,this.2⟩
 have N8:=(Dm.1 h1).2;refine⟨λi o ho=>⟨An.1 (Dm.1 h1).1 o (Be (by rw[Bq];exact ho)),?_,λd hd hl o' DL he=>?_⟩,λi o ho e he hb=>?_,λi j a b HS ha hb=>?_⟩
 ·exact Be (by rw[Bq];exact ho)
 ·have:=(hx i o ho).2
  rw[hd] at this;simp only[hl,Fw,Fx] at this;rw[<-Ed] at this
  have:=An.1 this o' DL
  rw[he] at this;simp only[Cd] at this;rw[show Nat.beq d d=true from Cs d] at this;cases this
 ·have:=(hx i o ho).1
  rw[<-Ed] at this
  have:=An.1 this e he
  simpa[hb,Dc] using this
 ·have hj:j<ops.size:=(Ad.1 hb).1
  have:=An.1 (An.1 N8 j (Cq.2 hj)) i (Cq.2 HS)
  rw[ha,hb] at this;simp only[Db,Cd,Dv,Ej,Bool.not_eq_false'] at this;rcases this with h|⟨⟨h,h'⟩,MT⟩
  ·exact .inl h
  ·exact .inr ⟨h,aAB h',aAB MT⟩
theorem zF(DC:iK ans cf)(hn:noRef tm)(ER:sT an rid tm=true)(hF:Fit ans an rid ops){kn:RS->Option R}(hk:∀rs1 rs2:RS,RSeq rs1 rs2->kn rs1=kn rs2):∀{l:List Nat}{rs1 rs2:RS},RSeq rs1 rs2->RefIn ops rs1 ->
  jP P ans an true cf tm rid ops (λ_ _=>none) kn l rs1=some r->jP P ans an true cf tm rid ops (λ_ _=>none) kn l rs2=some r
 |[],rs1,rs2,hq,hR,e=>by
  simp only[jP] at e ⊢;rw[<-hk _ _ hq];exact e
 |i::l,rs1,rs2,hq,hR,e=>by
  simp only[jP] at e ⊢
  split at e
  ·rename_i o ho
   obtain⟨rs',EF,a1,a2,a3,a4,a5,_⟩:=uI DC hn ER (hF.ok i o ho) hq hR e;rw[a2];exact zF DC hn ER hF hk a3 a4 a5
  ·cases e
theorem zG(DC:iK ans cf)(hn:noRef tm)(ER:sT an rid tm=true)(hF:Fit ans an rid ops){kn:RS->Option R}(hk:∀rs1 rs2:RS,RSeq rs1 rs2->kn rs1=kn rs2){i:Nat}{l:List Nat}:∀{pre:List Nat}{rs:RS},(∀p∈pre,p<i/\((Region.before ops).getD i 0).testBit p=false)->RefIn ops rs->Nh an rid rs.sc ->
  jP P ans an true cf tm rid ops (λ_ _=>none) kn (pre++i::l) rs=some r->jP P ans an true cf tm rid ops (λ_ _=>none) kn (i::(pre++l)) rs=some r
 |[],rs,hp,hR,hN,e=>e
 |p::pre,rs,hp,hR,hN,e=>by
  simp only[Dl,jP] at e ⊢
  split at e
  case h_2=>cases e
  rename_i o ho;obtain⟨rs',EF,a1,a2,a3,a4,a5,a6⟩:=uI DC hn ER (hF.ok p o ho) (RSeq.refl rs) hR e;have ih:=zG DC hn ER hF hk (l:=l) (λq hq=>hp q (by simp[hq])) a4 (a6 hN) a5;simp only[jP] at ih
  split at ih
  case h_2=>cases ih
  rename_i a ha;have B9:=hF.free p i o a (hp p (by simp)).1 ho ha;rw[(hp p (by simp)).2] at B9;obtain⟨B5,H1,H2⟩:=B9.resolve_left (by simp);have e2:gG P ans an true cf tm rid ops (λ_ _=>none) o p rs (λrs'=>gG P ans an true cf tm rid ops (λ_ _=>none) a i rs' λrs'=>jP P ans an true cf tm rid ops (λ_ _=>none) kn (pre++l) rs')=some r:=by rw[a1];exact ih
  obtain⟨rs1,Jy,rs2,b1,b2,b3,b4,b5⟩:=B5.elim (λB5=>comm DC hn (hF.ok p o ho) (hF.ok i a ha) hR B5 H1 H2 e2) λJe=>aLc ER Je hR hN H1 H2 e2
  rw[b2];rw[b3];exact zF DC hn ER hF hk b4 b5 b1
def Inv(ops:List Oper)(acc:Array Nat):Prop:=acc.size<=ops.length/\∀(j p:Nat),(acc.getD j 0).testBit p=true->∃o:Oper,ops[j]?=some o/\∃e∈o.after.toList,Region.binds .any e=true/\(p=e.on\/(acc.getD e.on 0).testBit p=true)
theorem qL(acc:Array Nat)(p:Nat):∀(l:List Edge)(s:Nat),(l.foldl (λs e=>if Region.binds .any e then s ||| 2^e.on ||| acc.getD e.on 0 else s) s).testBit p=true ->
  s.testBit p=true\/∃e∈l,Region.binds .any e=true/\(p=e.on\/(acc.getD e.on 0).testBit p=true)
 |[],s,h=>.inl h
 |e::l,s,h=>by
  simp only[Dy] at h;rcases qL acc p l _ h with h|⟨e',h1,h2⟩
  ·split at h
   ·rename_i hb
    simp only[Gg,Fe,Db,Am] at h;rcases h with(h|h)|h
    ·exact .inl h
    ·exact .inr ⟨e,by simp,hb,.inl h.symm⟩
    ·exact .inr ⟨e,by simp,hb,.inr h⟩
   ·exact .inl h
  ·exact .inr ⟨e',by simp[h1],h2⟩
theorem si:∀(l done:List Oper)(acc:Array Nat),acc.size=done.length->Inv (done++l) acc ->
  Inv (done++l) (l.foldl (λacc o=>acc.push (o.after.foldl (λs e=>if Region.binds .any e then s ||| 2^e.on ||| acc.getD e.on 0 else s) 0)) acc)
 |[],done,acc,hs,h=>h
 |o::l,done,acc,hs,h=>by
  simp only[Dy];rw[show done++o::l=(done++[o])++l by simp] at h ⊢;refine si l (done++[o]) _ (by simp[hs]) ⟨by simp[hs],λj p hb=>?_⟩;generalize hv:o.after.foldl (λs e=>if Region.binds .any e then s ||| 2^e.on ||| acc.getD e.on 0 else s) 0=v at hb ⊢
  have grow:∀k,(acc.getD k 0).testBit p=true->((acc.push v).getD k 0).testBit p=true:=λk hk=>by
   have AR:k<acc.size:=by
    rcases Ck k acc.size with h'|h'
    ·exact h'
    ·rw[Af,Hj h'] at hk;simp at hk
   rw[Af,Array.getElem?_push_lt AR];rw[Af,Az AR] at hk;exact hk
  by_cases hj:j=acc.size
  ·subst hj
   rw[Af] at hb;simp only[Array.getElem?_push_size,Cn] at hb;refine⟨o,by rw[hs,As,Bh (Ae _)];simp,?_⟩;rw[<-hv,<-Eg] at hb;rcases qL acc p _ 0 hb with h'|⟨e,h1,h2,h3⟩
   ·simp at h'
   ·exact⟨e,h1,h2,h3.imp id (grow _)⟩
  ·have AX:(acc.getD j 0).testBit p=true:=by
    rw[Af,Gl] at hb;rw[Ax hj] at hb;rw[Af];exact hb
   obtain⟨o',h1,e,h2,h3,h4⟩:=h.2 j p AX;exact⟨o',h1,e,h2,h3,h4.imp id (grow _)⟩
theorem before_inv(ops:Array Oper):Inv ops.toList (Region.before ops):=by
 have:=si ops.toList [] #[] rfl ⟨by simp,λj p h=>by simp at h⟩
 unfold Region.before;rw[<-Eg];exact this
theorem jY(hF:Fit ans an rid ops)(S:Nat->Prop)(hS:∀(j:Nat)(o:Oper),S j->ops[j]?=some o->∀e∈o.after.toList,Region.binds .any e=true->S e.on):∀(n i:Nat),i<n->(∀o:Oper,ops[i]?=some o->∀e∈o.after.toList,Region.binds .any e=true->S e.on) ->
  ∀p,((Region.before ops).getD i 0).testBit p=true->S p
 |0,i,hi,_,p,_=>by omega
 |n+1,i,hi,Sd,p,hb=>by
  obtain⟨o,ho,e,he,HK,h⟩:=(before_inv ops).2 i p hb;rw[Bq] at ho;have hs:=Sd o ho e he HK;rcases h with h|h
  ·subst h;exact hs
  ·have:=hF.edge i o ho e he HK
   exact jY hF S hS n e.on (by omega) (λo' DL e' HV AX=>hS e.on o' hs DL e' HV AX) p h
def rem(n:Nat)(listed:Array Bool):List Nat:=(List.range n).filter λi=>!listed.getD i true
theorem sG(n:Nat):(List.range n).Pairwise (· < ·):=List.pairwise_lt_range
theorem nq{n i:Nat}{listed:Array Bool}{pre post:List Nat}(h:rem n listed=pre++i::post)(hi:i<listed.size):rem n (listed.setIfInBounds i true)=pre++post:=by
 have hf:rem n (listed.setIfInBounds i true)=(rem n listed).filter (λk=>k != i):=by
  unfold rem;rw[List.filter_filter];apply List.filter_congr;intro k _;by_cases hk:k=i
  ·subst hk
   simp[Af,Es,hi]
  ·simp[Af,Bt (Co hk),hk]
 have HQ:(rem n listed).Pairwise (· < ·):=(sG n).filter _;rw[h] at HQ;rw[Gc] at HQ;obtain⟨_,h2,h3⟩:=HQ;rw[Fj] at h2;rw[hf,h,List.filter_append,List.filter_cons];have e1:pre.filter (λk=>k != i)=pre:=Fg.2 λx hx=>by have:=h3 x hx i (by simp);simp;omega
 have e2:post.filter (λk=>k != i)=post:=Fg.2 λx hx=>by have:=h2.1 x hx;simp;omega
 simp[e1,e2]
theorem aJK(DC:iK ans cf)(hn:noRef tm)(ER:sT an rid tm=true)(hF:Fit ans an rid ops){kn:RS->Option R}(hk:∀rs1 rs2:RS,RSeq rs1 rs2->kn rs1=kn rs2):∀(fuel t:Nat)(listed:Array Bool)(rs:RS),listed.size=ops.size->(rem ops.size listed).length=fuel ->
  (∀(j:Nat)(o:Oper),listed.getD j false=true->ops[j]?=some o->∀e∈o.after.toList,Region.binds .any e=true->listed.getD e.on false=true)->RefIn ops rs->Nh an rid rs.sc ->
  jP P ans an true cf tm rid ops (λ_ _=>none) kn (rem ops.size listed) rs=some r->jP P ans an true cf tm rid ops (λ_ _=>none) kn (Region.linearise.go .any ops fuel t listed []) rs=some r
 |0,t,listed,rs,hs,hl,hc,hR,hN,e=>by
  rw[Cm.1 hl] at e;simpa[Region.linearise.go] using e
 |fuel+1,t,listed,rs,hs,hl,hc,hR,hN,e=>by
  have EM:∀i,i∈Region.ready .any ops listed↔i∈rem ops.size listed/\∀o:Oper,ops[i]?=some o->∀e∈o.after.toList,Region.binds .any e=true->listed.getD e.on false=true:=λi=>by
   unfold Region.ready rem;simp only[Dh,Cq,Ac];constructor
   ·rintro⟨h1,h2,h3⟩
    refine⟨⟨h1,h2⟩,λo ho e he hb=>?_⟩;rw[ho] at h3;simp only[Bw,Cn] at h3;rw[<-Ed] at h3
    have:=An.1 h3 e he
    simpa[hb] using this
   ·rintro⟨⟨h1,h2⟩,h3⟩
    refine⟨h1,h2,?_⟩;rw[Az h1];simp only[Bw,Cn];rw[<-Ed];refine An.2 λe he=>?_
    cases hb:Region.binds .any e with
    |false=>rfl
    |true=>simpa using h3 _ (Az h1) e he hb
  have HQ:(rem ops.size listed).Pairwise (· < ·):=(sG _).filter _
  have BD:Region.ready .any ops listed≠[]:=by
   cases hr:rem ops.size listed with
   |nil=>rw[hr] at hl;simp at hl
   |cons m rest =>
    have hm:m∈Region.ready .any ops listed:=(EM m).2 ⟨by simp[hr],λo ho e he hb=>by
     have AR:=hF.edge m o ho e he hb;have hmn:m<ops.size:=(Ad.1 ho).1;cases hv:listed.getD e.on true with
     |true =>
      rw[Af,Az (by omega)] at hv ⊢;exact hv
     |false =>
      have:e.on∈rem ops.size listed:=by
       unfold rem;simp only[Dh,Cq];exact⟨by omega,by rw[hv];rfl⟩
      rw[hr] at this HQ;rw[Fj] at HQ;rcases Bb.1 this with h'|h'
      ·omega
      ·have:=HQ.1 _ h';omega⟩
    intro h0;rw[h0] at hm;cases hm
  simp only[Region.linearise.go]
  change jP P ans an true cf tm rid ops _ kn (match(Region.ready .any ops listed)[t%(Region.ready .any ops listed).length]? with
   |some i=>Region.linearise.go .any ops fuel (t/(Region.ready .any ops listed).length) (listed.setIfInBounds i true) [i]
   |none=>[].reverse) rs=some r
  cases hi:(Region.ready .any ops listed)[t%(Region.ready .any ops listed).length]? with
  |none =>
   exfalso;rw[Cy] at hi;have CR:0<(Region.ready .any ops listed).length:=List.length_pos_iff.2 BD
   have:=Fc t CR
   omega
  |some i =>
   simp only;rw[linearise_go_acc,Hg,Ca];obtain⟨Io,KQ⟩:=(EM i).1 (Be hi)
   have GN:i<ops.size:=by
    unfold rem at Io;exact Cq.1 (Dh.1 Io).1
   obtain⟨pre,post,Ik⟩:=List.append_of_mem Io;have dA:=nq Ik (by omega);rw[Ik] at e HQ;rw[Gc] at HQ
   have BM:∀p∈pre,p<i/\((Region.before ops).getD i 0).testBit p=false:=λp hp=>by
    refine⟨HQ.2.2 p hp i (by simp),?_⟩;cases hb:((Region.before ops).getD i 0).testBit p with
    |false=>rfl
    |true =>
     have h1:=jY hF (λj=>listed.getD j false=true) hc (i+1) i (by omega) KQ p hb;have h2:p∈rem ops.size listed:=by rw[Ik];simp[hp]
     unfold rem at h2;have h3:=(Dh.1 h2).2;have h4:=Cq.1 (Dh.1 h2).1;rw[Af,Az (by omega)] at h1 h3;simp only[Cn] at h1 h3;rw[h1] at h3;cases h3
   have e2:=zG DC hn ER hF hk BM hR hN e;simp only[jP] at e2 ⊢;rw[Az GN] at e2 ⊢;simp only at e2 ⊢;obtain⟨rs',EF,a1,a2,a3,a4,a5,a6⟩:=uI DC hn ER (hF.ok i _ (Az GN)) (RSeq.refl rs) hR e2;rw[a1];refine aJK DC hn ER hF hk fuel _ _ rs' (by simp[hs]) ?_ ?_ a4 (a6 hN) (by rw[dA];exact a5)
   ·rw[dA]
    rw[Ik] at hl;simp at hl ⊢;omega
   ·intro j o hj ho e' HV AX
    have mono:∀k,listed.getD k false=true->(listed.setIfInBounds i true).getD k false=true:=λk Ny=>by
     by_cases hki:k=i
     ·subst hki
      simp[Af,Es,hs,GN]
     ·rw[Af,Bt (Co hki),<-Af];exact Ny
    by_cases GB:j=i
    ·subst GB;exact mono _ (KQ o ho e' HV AX)
    ·rw[Af,Bt (Co GB),<-Af] at hj
     exact mono _ (hc j o hj ho e' HV AX)
theorem aAt(hm:P.follows .mixedOrders=true)(DC:iK ans cf):kN P ans cf:=by
 refine⟨hm,λR fid tm rid ops kn rs r h1 h2 ER hn JD hk e t=>?_⟩;have hF:=aLt h1 h2
 have hrem:rem ops.size (Array.replicate ops.size false)=List.range ops.size:=by
  unfold rem;refine Fg.2 λk Ny=>?_
  have:=Cq.1 Ny
  simp[Af,Ea,this]
 unfold Region.linearise;refine aJK DC hn ER hF (λrs1 rs2 hq=>hk rs1 rs2 hq.1 hq.2) ops.size t _ rs (by simp) (by rw[hrem];simp) (λj o hj ho=>?_) (λt u x hl=>by rw[JD] at hl;simp[bL] at hl) (λp _ _=>by rw[JD];exact⟨rfl,rfl⟩) (by rw[hrem];exact e);rw[Af,Ea] at hj
 split at hj<;>simp at hj
end
section
variable {P:Program}{ans:FuncId->AK}{an:AK}{tm:List Slot}{rs:RS}
inductive Out where
 |ret (s:Slot) (rs:RS)
 |pan (v:AVal) (rs:RS)
 |call (AF:Bool) (c:Callee) (args:List Slot) (rs:RS)
 |none
def Out.run{R:Type}(cf:aO)(kp:AVal->RS->Option R)(k:Slot->RS->Option R):Out->Option R
 |.ret s rs=>k s rs
 |.pan v rs=>kp v rs
 |.call AF c args rs=>dJ AF cf c args rs kp k
 |.none=>Option.none
abbrev FF:=∀(R:Type),aO->(AVal->RS->Option R)->(Slot->RS->Option R)->Option R
def aY(F:FF):Prop:=∃out:Out,∀R cf kp k,F R cf kp k=out.run cf kp k
theorem bJ{s:Slot}{rs:RS}:aY (λ_ _ _ k=>k s rs):=⟨.ret s rs,λ_ _ _ _=>rfl⟩
theorem aLy{s:AVal}{rs:RS}:aY (λ_ _ kp _=>kp s rs):=⟨.pan s rs,λ_ _ _ _=>rfl⟩
theorem aJ:aY (λ_ _ _ _=>none):=⟨.none,λ_ _ _ _=>rfl⟩
theorem aHv{AF:Bool}{c:Callee}{args:List Slot}{rs:RS}:aY (λ_ cf kp k=>dJ AF cf c args rs kp k):=⟨.call AF c args rs,λ_ _ _ _=>rfl⟩
theorem aX{α:Type}{x:Option α}{G:α->FF}(h:∀a,aY (G a)):aY (λR cf kp k=>x.bind λa=>G a R cf kp k):=by
 cases x with
 |none=>exact aJ
 |some a=>exact h a
theorem bU{b:Bool}{F:FF}(h:aY F):aY (λR cf kp k=>aL b (F R cf kp k)):=by
 cases b with
 |true=>exact h
 |false=>exact aJ
theorem k6{s:Slot}{G:AVal->FF}(h:∀v,aY (G v)):aY (λR cf kp k=>DI s λv=>G v R cf kp k):=by
 cases s<;>first|exact h _|exact aJ
theorem rS{s:Slot}{G:List AVal->FF}(h:∀v,aY (G v)):aY (λR cf kp k=>lJ s λv=>G v R cf kp k):=by
 cases s with
 |val v=>cases v<;>first|exact h _|exact aJ
 |_=>first|exact h _|exact aJ
theorem fC{s:Slot}{G:IntKind->Int->FF}(h:∀a b,aY (G a b)):aY (λR cf kp k=>asInt s λa b=>G a b R cf kp k):=by
 cases s with
 |val v=>cases v<;>first|exact h _ _|exact aJ
 |_=>exact aJ
theorem aCe{s:Slot}{G:Bool->FF}(h:∀a,aY (G a)):aY (λR cf kp k=>asBool s λa=>G a R cf kp k):=by
 cases s with
 |val v=>cases v with
  |bool b=>cases b<;>exact h _
  |_=>exact aJ
 |_=>exact aJ
theorem Yf{s:Slot}{G:Slot->FF}(h:∀a,aY (G a)):aY (λR cf kp k=>mv s λa=>G a R cf kp k):=by
 cases s<;>first|exact h _|exact aJ
theorem mB{x:Operand}{s:Slot}{G:Place->FF}(h:∀a,aY (G a)):aY (λR cf kp k=>dE x s λa=>G a R cf kp k):=by
 cases s with
 |box cs=>cases x<;>first|exact h _|exact aJ
 |ref t o=>exact h _
 |val v=>cases v<;>first|exact h _|exact aJ
 |_=>exact aJ
theorem aEy{s:Slot}{G:List Cell->FF}(h:∀a,aY (G a)):aY (λR cf kp k=>pU s λa=>G a R cf kp k):=by
 cases s<;>first|exact h _|exact aJ
theorem aEz{s:Option AObj}{G:List Cell->FF}(h:∀a,aY (G a)):aY (λR cf kp k=>iG s λa=>G a R cf kp k):=by
 rcases s with _|o
 ·exact aJ
 ·cases o<;>first|exact h _|exact aJ
theorem yM{s:Option AObj}{G:List (AVal×AVal)->FF}(h:∀a,aY (G a)):aY (λR cf kp k=>lH s λa=>G a R cf kp k):=by
 rcases s with _|o
 ·exact aJ
 ·cases o<;>first|exact h _|exact aJ
theorem rz{keep:List Nat}{p:Place}{G:List Cell->Nat->FF}(h:∀a b,aY (G a b)):aY (λR cf kp k=>aQ keep tm rs p λa b=>G a b R cf kp k):=by
 cases p with
 |loc t o=>exact aEy λa=>h a o
 |obj i o=>exact aEz λa=>h a o
 |imm x=>exact h _ _
theorem sg{p:Place}{cs:List Cell}{G:RS->FF}(h:∀a,aY (G a)):aY (λR cf kp k=>bQ rs p cs λa=>G a R cf kp k):=by
 cases p with
 |loc t o=>exact h _
 |obj i o=>exact bU (h _)
 |imm x=>exact aJ
theorem yL{keep:List Nat}{x:Operand}{G:List Cell->RS->FF}(h:∀a b,aY (G a b)):aY (λR cf kp k=>dM keep tm rs x λa b=>G a b R cf kp k):=by
 unfold dM;generalize A9 keep tm rs x=s;have hv:aY (λR cf kp k=>DI s λv=>G (v.cells.map .val) rs R cf kp k):=k6 λv=>h _ _
 cases s with
 |own sz xs =>
  cases x with
  |tmp t=>dsimp only;cases keep.contains t<;>exact h _ _
  |const v=>cases xs<;>first|exact h _ _|exact hv
  |_=>exact hv
 |cells cs =>
  cases x with
  |tmp t=>dsimp only;cases keep.contains t<;>exact h _ _
  |_=>exact hv
 |_=>exact hv
theorem ry{t0:TypeId}{keep:List Nat}{x:Operand}{G:List Cell->RS->FF}(h:∀a b,aY (G a b)):aY (λR cf kp k=>eU P t0 keep tm rs x λa b=>G a b R cf kp k):=by
 unfold eU;cases hs:A9 keep tm rs x
 case nl=>exact aX λe=>aX λsz=>h _ _
 all_goals exact yL h
theorem yN{keep:List Nat}:∀{ps:List (Nat×Operand)}{G:List (Nat×AVal)->FF},(∀a,aY (G a))->aY (λR cf kp k=>hQ keep tm rs ps λa=>G a R cf kp k)
 |[],G,h=>h _
 |(i,x)::r,G,h=>k6 λv=>yN (ps:=r) λa=>h _
theorem aAC{keep:List Nat}:∀{ps:List Operand}{G:List AVal->FF},(∀a,aY (G a))->aY (λR cf kp k=>nG keep tm rs ps λa=>G a R cf kp k)
 |[],G,h=>h _
 |x::r,G,h=>k6 λv=>aAC (ps:=r) λa=>h _
theorem wO{keep own:List Nat}:∀{ps:List Operand}{rs:RS}{i:Nat}{G:List Slot->RS->FF},(∀a b,aY (G a b))->aY (λR cf kp k=>gP keep tm rs own i ps λa b=>G a b R cf kp k)
 |[],rs,i,G,h=>h _ _
 |x::r,rs,i,G,h=>by
  have hv:aY (λR cf kp k=>DI (A9 keep tm rs x) λv=>gP keep tm rs own (i+1) r λl rs'=>G (.val v::l) rs' R cf kp k):=k6 λv=>wO (ps:=r) λa b=>h _ _
  simp only[gP]
  revert hv
  generalize A9 keep tm rs x=s;intro hv;cases own.contains i with
  |false=>cases s<;>exact hv
  |true =>
   cases s with
   |own sz l0 =>
    cases x with
    |tmp t=>exact wO (ps:=r) λa b=>h _ _
    |_=>exact hv
   |nl=>exact wO (ps:=r) λa b=>h _ _
   |_=>exact hv
theorem jZ{keep:List Nat}{x:Option Operand}{d:Int}{G:Int->FF}(h:∀a,aY (G a)):aY (λR cf kp k=>jQ keep tm rs x d λa=>G a R cf kp k):=by
 cases x with
 |none=>exact h _
 |some x=>exact fC λa b=>h b
theorem aEA{sz:Nat}{full:Bool}{xs:List AVal}{l hh:Int}{G:Slot->FF}(h:∀a,aY (G a)):aY (λR cf kp k=>fF sz full xs l hh λa=>G a R cf kp k):=bU (h _)
theorem sf{drawn:Bool}{SE:List Nat}{p:Place}{F:FF}(h:aY F):aY (λR cf kp k=>bG drawn SE p (F R cf kp k)):=by
 cases drawn with
 |false=>exact h
 |true=>cases p<;>exact bU h
theorem aEC{tk:Bool}{ty:TypeId}{x:Operand}{G:Slot->RS->FF}(h:∀a b,aY (G a b)):aY (λR cf kp k=>GL P an tm tk ty x rs λa b=>G a b R cf kp k):=by
 cases x with
 |tmp t =>
  simp only[GL];generalize A9 an.keep tm rs (.tmp t)=s;have hv:aY (λR cf kp k=>mv s λs'=>G s' rs R cf kp k):=Yf λv=>h _ _
  cases s with
  |own sz xs=>dsimp only;cases(tk||!an.keep.contains t)<;>exact h _ _
  |cells cs=>dsimp only;cases(tk||!an.keep.contains t)<;>exact h _ _
  |_=>exact hv
 |const v =>
  simp only[GL];generalize l8 P ty v=s;cases s<;>first|exact h _ _|exact aJ
 |_=>simp only[GL];exact Yf λv=>h _ _
theorem aCB(drawn AF:Bool)(DS:List Nat)(tk:Bool)(o:Oper):aY (λ_ cf kp k=>aD P ans an drawn AF DS cf tm tk o rs kp k):=by
 obtain⟨dst,op,ty,pos,AH,gd⟩:=o;cases op with
 |move x=>simp only[aD];exact aEC λ_ _=>bJ
 |assign x=>simp only[aD];exact aEC λ_ _=>bJ
 |pick c a b=>simp only[aD];exact aCe λ_=>Yf λ_=>bJ
 |alloc t =>
  simp only[aD];refine aX λz=>aX λs=>bU ?_
  cases dst with
  |none=>exact aJ
  |some d=>dsimp only;cases an.loc.contains d<;>exact bJ
 |box t x =>
  simp only[aD];refine ry λv rs=>aX λs=>bU ?_
  cases dst with
  |none=>exact aJ
  |some d =>
   dsimp only
   cases an.loc.contains d
   ·exact bU bJ
   ·exact bJ
 |build t parts =>
  simp only[aD];refine aX λz=>?_
  generalize P.underlying t=u;rcases u with _|u
  ·exact aJ
  ·cases u<;>first
    |exact yN λl=>aX λs=>aX λcs=>bJ
    |exact aJ
 |buildSlice t len parts=>simp only[aD];exact aX λe=>aX λs=>bU (yN λl=>aX λz=>bU (aX λxs=>bJ))
 |load t a =>
  simp only[aD];refine mB λp=>sf (rz λcs off=>aX λs=>aX λagg=>?_)
  cases agg with
  |true=>exact aX λv=>bJ
  |false =>
   refine bU ?_;generalize cs[off]?=c;have hc:aY (λ_ _ _ k=>c.bind λc=>k (.val c.get) rs):=aX λc=>bJ
   cases tk with
   |false=>exact hc
   |true =>
    rcases c with _|c
    ·exact hc
    ·cases c with
     |own sz xs=>exact sg λ_=>bJ
     |val v=>exact hc
 |store t a x=>simp only[aD];exact mB λp=>sf (rz λcs off=>aX λs=>yL λv rs=>bU (sg λ_=>bJ))
 |nilCheck x =>
  simp only[aD];generalize A9 an.keep tm rs x=s;cases s with
  |box cs=>cases x<;>first|exact bJ|exact aJ
  |ref t o=>exact bJ
  |val v=>cases v<;>first|exact bJ|exact aJ
  |_=>exact aJ
 |binOp op t x y w =>
  simp only[aD];generalize A9 an.keep tm rs x=s;generalize A9 an.keep tm rs y=s';generalize dR y=b1;generalize isNilIface y=b2;have hz:aY (λ_ _ _ k=>DI s λa=>DI s' λb=>aL (iF P t a) ((jI op a b).bind λv=>k (.val v) rs)):=k6 λa=>k6 λb=>bU (aX λv=>bJ)
  have hn:∀f:Bool->Bool,aY (λ_ _ _ k=>aL (gE P t) ((cO s).bind λb=>k (.val (.bool (f b))) rs)):=λf=>bU (aX λb=>bJ)
  cases op<;>cases b1<;>first
   |exact hn id
   |exact hn (!·)
   |(cases b2 with
     |false=>exact hz
     |true =>
      cases s with
      |val v=>cases v<;>first|exact bU bJ|exact hz
      |_=>exact hz)
   |exact hz
 |unOp op t x =>
  simp only[aD];generalize A9 an.keep tm rs x=s
  cases op<;>first
   |exact aJ
   |(cases s with
     |val v=>cases v<;>first|exact bJ|exact aJ
     |_=>exact aJ)
 |convert src dt x =>
  simp only[aD];generalize P.underlying src=u1;generalize P.underlying dt=u2;generalize A9 an.keep tm rs x=s;rcases u1 with _|u1
  ·exact aJ
  ·rcases u2 with _|u2
   ·cases u1<;>exact aJ
   ·cases u1<;>cases u2<;>first
     |exact aJ
     |exact fC λ_ _=>bJ
     |(cases s with
       |val v=>cases v<;>first|exact bJ|exact aJ
       |_=>exact aJ)
 |fieldAddr t x f =>
  simp only[aD];refine aX λot=>aX λs=>bU (mB λp=>?_)
  cases p with
  |loc t o=>exact bJ
  |obj i o=>exact bJ
  |imm v=>exact aX λ_=>aX λ_=>bJ
 |field t x f =>
  simp only[aD];refine aX λot=>aX λs=>aX λagg=>?_
  generalize A9 an.keep tm rs x=s';cases s' with
  |val v=>cases v<;>first|exact aX λ_=>bJ|exact aJ
  |_=>exact aJ
 |indexAddr t x ix =>
  simp only[aD];generalize P.underlying t=u;rcases u with _|u
  ·exact aJ
  ·cases u<;>first
    |exact aJ
    |exact rS λxs=>fC λ_ n=>aX λs=>bU (aX λv=>bU bJ)
    |(refine mB λp=>fC λ_ n=>aX λs=>bU ?_
      cases p with
      |loc t o=>exact bJ
      |obj i o=>exact bJ
      |imm v=>exact aX λ_=>aX λ_=>bJ)
 |index t x ix =>
  simp only[aD];generalize P.underlying t=u;generalize A9 an.keep tm rs x=s;rcases u with _|u
  ·exact aJ
  ·cases u<;>first
    |exact aJ
    |(cases s with
      |val v=>cases v<;>first
       |exact fC λ_ n=>bU (aX λb=>bJ)
       |exact fC λ_ n=>aX λs=>aX λagg=>bU (aX λu=>bJ)
       |exact aJ
      |cells cs=>first
       |exact fC λ_ n=>aX λs=>aX λagg=>bU (aX λu=>bJ)
       |exact aJ
      |_=>exact aJ)
 |slice t x lo hi mx =>
  simp only[aD];generalize P.underlying t=u;generalize A9 an.keep tm rs x=s;rcases u with _|u
  ·exact aJ
  ·cases u<;>first
    |exact aJ
    |(cases mx with
      |some m=>first
       |(cases s with
         |val v=>cases v<;>exact aJ
         |_=>exact aJ)
       |(refine aX λsz=>rS λxs=>jZ λl=>jZ λh=>fC λ_ m=>bU ?_
         cases hi with
         |none=>exact aJ
         |some x=>exact aEA λ_=>bJ)
      |none=>first
       |(cases s with
         |val v=>cases v<;>first
          |exact jZ λl=>jZ λh=>bU bJ
          |exact aJ
         |_=>exact aJ)
       |exact aX λsz=>rS λxs=>jZ λl=>jZ λh=>aEA λ_=>bJ)
 |makeInterface t x =>
  simp only[aD];generalize P.underlying t=u;rcases u with _|u
  ·exact aJ
  ·cases u<;>first|exact aJ|exact k6 λv=>bJ
 |makeFunc fn first caps =>
  simp only[aD];generalize first.toList=l
  cases fn<;>cases l<;>first
   |exact aJ
   |exact aAC λl=>bJ
 |makeMap t r =>
  simp only[aD];cases r with
  |none=>exact bJ
  |some x=>exact fC λ_ _=>bU bJ
 |lookup t m key ok =>
  simp only[aD];generalize P.underlying t=u;generalize A9 an.keep tm rs m=s;rcases u with _|u
  ·exact aJ
  ·cases u<;>first
    |exact aJ
    |(cases s with
      |val v=>cases v<;>first
       |exact aJ
       |(refine yM λes=>k6 λkv=>bU (aX λr=>aX λz=>?_)
         cases ok<;>exact bJ)
      |_=>exact aJ)
 |mapUpdate t m key x =>
  simp only[aD];generalize P.underlying t=u;generalize A9 an.keep tm rs m=s;rcases u with _|u
  ·exact aJ
  ·cases u<;>first
    |exact aJ
    |(cases s with
      |val v=>cases v<;>first
       |exact aJ
       |exact yM λes=>k6 λkv=>k6 λv=>bU (aX λr=>bJ)
      |_=>exact aJ)
 |extract t ix =>
  simp only[aD];generalize A9 an.keep tm rs t=s;cases s<;>first|exact aX λv=>bJ|exact aJ
 |panic x =>
  simp only[aD];generalize A9 an.keep tm rs x=s;cases drawn with
  |true=>exact aJ
  |false =>
   cases s with
   |val v=>cases v<;>first|exact aLy|exact aJ
   |_=>exact aJ
 |call c =>
  obtain⟨callee,args,argTypes⟩:=c;simp only[aD];generalize args.toList=l;cases callee with
  |value f =>
   dsimp only
   generalize A9 an.keep tm rs f=s;cases s with
   |val v=>cases v<;>first
    |exact wO λl rs'=>aHv
    |exact aJ
   |_=>exact aJ
  |builtin b =>
   have hlen:∀x,aY (λ_ _ _ k=>match(argTypes[0]?).bind P.underlying with
     |some .string=>(match A9 an.keep tm rs x with|.val (.str s)=>k (.val (.int .i64 s.length)) rs|_=>none)
     |some (.slice _)=>lJ (A9 an.keep tm rs x) λxs=>k (.val (.int .i64 xs.length)) rs
     |some (.array n _)=>k (.val (.int .i64 n)) rs
     |some (.map _ _)=>(match A9 an.keep tm rs x with
      |.val (.amap i)=>lH rs.sto.objs[i]? λes=>k (.val (.int .i64 es.length)) rs
      |_=>none)
     |_=>none):=λx=>by
    generalize(argTypes[0]?).bind P.underlying=u;generalize A9 an.keep tm rs x=s;rcases u with _|u
    ·exact aJ
    ·cases u<;>first
      |exact aJ
      |exact rS λxs=>bJ
      |exact bJ
      |(cases s with
        |val v=>cases v<;>first
         |exact bJ
         |exact yM λes=>bJ
         |exact aJ
        |_=>exact aJ)
   have Js:∀s x,aY (λ_ _ _ k=>match(argTypes[0]?).bind (aT P),(argTypes[1]?).bind (aT P) with
     |some e,some _=>(bA P e).bind λsz=>(zeroOf P e).bind λz=>lJ (A9 an.keep tm rs x) λys=>aL (Nat.blt 0 sz&&Nat.beq z.cells.length sz&&Nat.ble (aU P e) 16384&&Nat.blt 0 (aU P e)&&ys.all (λy=>Nat.beq y.cells.length sz)) (match A9 an.keep tm rs s,s with
      |.own EK xs,.tmp t=>aL (Nat.beq sz EK&&Nat.ble (xs.length+ys.length) room) (k (.own sz (xs++ys)) (rs.put t (.val (.slice xs))))
      |.full xs,_=>aL (xs.all (λy=>Nat.beq y.cells.length sz)&&Nat.ble (xs.length+ys.length) room&&(xs.isEmpty||!ys.isEmpty)) (k (.own sz (xs++ys)) rs)
      |.nl,_=>aL (Nat.ble ys.length room) (k (.own sz ys) rs)
      |_,_=>none)
     |_,_=>none):=λs x=>by
    generalize(argTypes[0]?).bind (aT P)=u1;generalize(argTypes[1]?).bind (aT P)=u2;rcases u1 with _|u1
    ·exact aJ
    ·rcases u2 with _|u2
     ·exact aJ
     ·refine aX λsz=>aX λz=>rS λys=>bU ?_
      generalize A9 an.keep tm rs s=v;cases v with
      |own EK xs=>cases s<;>first|exact bU bJ|exact aJ
      |full xs=>exact bU bJ
      |nl=>exact bU bJ
      |_=>exact aJ
   rcases l with _|⟨x,l⟩
   ·cases b<;>exact aJ
   ·rcases l with _|⟨y,l⟩
    ·cases b<;>first|exact hlen x|exact aJ
    ·rcases l with _|⟨z,l⟩
     ·cases b<;>first|exact Js x y|exact fC λ_ _=>fC λ_ _=>bJ|exact aJ
     ·cases b<;>exact aJ
  |_=>exact aJ
 |_=>exact aJ
end
end Go.AM
