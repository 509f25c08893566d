import Derived.Test.YtoiocfngjchdiaaGreatDoorC03
import Derived.Laws.IdiomStrings
import Derived.Test.YtoiocfngjchdiaaGreatDoorA05
set_option linter.all false
noncomputable section
namespace Go.CM
section
open Go.AM (oneC overwrite aX aR run_underlying run_sizeOf aU aP aM aC aO bO cE bytes_beq run_getObj run_setObj heap_alloc_new heap_alloc_old eQ b8)
variable {P:Program}{w0:Base}{w:World}{J:Rho}{h:T O}{nx:Q}{tm:T V}{tmps:Array Value}{ds:List Deferred}{r v:V}
def NZ:O->Bool
 |.dead=>false
 |.ro _ _=>false
 |.rb _ _=>false
 |_=>true
theorem Sh.dead(x:O)(q:Q):Sh x .dead q:=by cases x<;>simp[Sh]
theorem Sh.of_not{x y:O}{q:Q}(h:NZ x=false):Sh x y q:=by cases x<;>first|trivial|cases h
theorem HR.upd(H:HR P w0 J h nx w){o:Q}{b N:Nat}{x:Obj}(ho:J o=some (b,N))(hB:w0.heap.size<=b){h':T O}
  (h1:OR P J (w.putObj b x) w0.heap.size (h'.ob o) b N) (h2:∀q,q≠o->h'.ob q=h.ob q\/h'.ob q=.dead)
  (h3:∀q N',q≠o->J q=some (b,N')->OR P J (w.putObj b x) w0.heap.size (h'.ob q) b N'/\Sh (h'.ob o) (h'.ob q) q/\NZ (h'.ob q)=false):HR P w0 J h' nx (w.putObj b x):=by
 have JU:∀b',b'≠b->(w.putObj b x).heap[b']?=w.heap[b']?:=λb' BB=>World.putObj_heap_other BB
 have BC:(w.putObj b x).heap.size=w.heap.size:=by simp
 refine⟨by rw[BC];exact H.size,λb' BB=>by rw[JU b' (by omega)];exact H.old b' BB,H.os,H.tape,H.output,H.glob,H.fresh,λq b' N' e=>by rw[BC];exact H.lt q b' N' e,λq b' N' e=>?_,λq q' b' N1 N2 BD e1 e2=>?_,λq hq=>?_,H.base⟩
 ·by_cases hq:q=o
  ·subst hq
   rw[ho] at e;simp at e;obtain⟨rfl,rfl⟩:=e;exact h1
  ·by_cases BB:b'=b
   ·subst BB;exact(h3 q N' hq e).1
   ·rcases h2 q hq with h4|h4
    ·rw[h4];exact(H.obj q b' N' e).mono (Rho.le_refl _) (JU b' BB)
    ·rw[h4];exact .dead _ _
 ·by_cases hq:q=o
  ·subst hq
   rw[ho] at e1;simp at e1;obtain⟨rfl,rfl⟩:=e1;exact(h3 q' N2 (λe=>BD e.symm) e2).2.1
  ·by_cases Jr:q'=o
   ·subst Jr
    rw[ho] at e2;simp at e2;obtain⟨rfl,rfl⟩:=e2;exact Sh.of_not (h3 q N1 hq e1).2.2
   ·rcases h2 q hq with h4|h4
    ·rcases h2 q' Jr with h5|h5
     ·rw[h4,h5];exact H.sep q q' b' N1 N2 BD e1 e2
     ·rw[h5];exact Sh.dead _ _
    ·rw[h4];trivial
 ·rcases h2 q (λe=>by subst e;rw[H.fresh _ hq] at ho;cases ho) with h4|h4
  ·rw[h4];exact H.dead q hq
  ·exact h4
theorem Keep.of{β:Nat}{h':T O}(hk:∀q,J q=none->h'.ob q=h.ob q):Keep β J h J h':=⟨Rho.le_refl _,λq _ hq=>⟨hq,hk q hq⟩⟩
theorem bY(h:T O)(o:O)(p q:Q):(h.put .dead o p).ob q=if p=q then o else h.ob q:=T.get_put _ _ _ _ _
def vU:List Q->T O->T O
 |[],h=>h
 |q::qs,h=>vU qs (h.put .dead .dead q)
theorem jd:∀(qs:List Q)(h:T O)(k:T O->Res),vR qs h k=k (vU qs h)
 |[],h,k=>rfl
 |q::qs,h,k=>by simp only[vR,cT,jd qs,vU]
theorem pN:∀(qs:List Q)(h:T O)(q:Q),(vU qs h).ob q=if q∈qs then .dead else h.ob q
 |[],h,q=>by simp[vU]
 |p::qs,h,q=>by
  simp only[vU,pN qs,bY];by_cases h1:q∈qs
  ·simp[h1]
  ·by_cases h2:p=q
   ·subst h2;simp
   ·simp[h1,h2,Db h2]
theorem sj(H:HR P w0 J h nx w){o:Q}{b N off:Nat}{vs:List V}{us:List Value}{k:T O->Res}(ho:J o=some (b,N))(hv:VRs J vs us)(hk:∀c∈vs,isCell c=true)(e:Jk o off vs h k=.ok r) :
  ∃h' Vs T,k h'=.ok r/\w.heap[b]?=some (.cells ⟨Vs⟩ T (0,0))/\off+us.length<=Vs.length/\HR P w0 J h' nx (w.putObj b (.cells ⟨overwrite Vs off us⟩ T (0,0)))/\Keep nx.nat J h J h':=by
 unfold Jk at e;rw[bV] at e;have hO:=H.obj o b N ho
 split at e
 ·rename_i n t BW CB T ex C0
  rw[cJ] at e;obtain⟨hg,e⟩:=bP e;rw[cV] at e;have hle:=Ad hg;rw[C0] at hO;cases hO with
  |row _ _ _ _ _ _ _ _ Vs hB hw hN hn hf he ha hx hc =>
  have H5:=(Ai.1 hw).1;have hlen:us.length=vs.length:=hv.1.symm;have EK:off+us.length<=Vs.length:=by rw[hlen];omega
  generalize DO:w.putObj b (.cells ⟨overwrite Vs off us⟩ T (0,0))=w';have FM:w'.heap[b]?=some (.cells ⟨overwrite Vs off us⟩ T (0,0)):=by rw[<-DO];exact World.putObj_heap_same H5
  have EJ:∀LC Ky,(∀a∈LC,J a≠none)->Ky<=n->OR P J w' w0.heap.size (.row n (dE vs off t) LC Ky T ex) b N:=λLC Ky KC NC=>by
   refine .row _ _ _ _ _ _ _ _ _ hB FM (by rw[aR _ _ _ EK];exact hN) hn NC he KC (λi u hi hu=>?_) λi hi=>?_
   ·rw[aX _ _ _ _ EK] at hu
    rw[gW];by_cases g1:i<off
    ·rw[Bu g1] at hu
     rw[Bc (by omega)];exact hx i u hi hu
    ·rw[Bc g1] at hu
     by_cases g2:i<off+us.length
     ·rw[Bu g2] at hu
      have AL:i-off<vs.length:=by omega
      rw[Bu ⟨by omega,by omega⟩];refine hv.2 (i-off) _ u ?_ hu;simp[Br,AL]
     ·rw[Bc g2] at hu
      rw[Bc (by omega)];exact hx i u hi hu
   ·rw[gW]
    split
    ·rename_i RF
     have AL:i-off<vs.length:=by omega
     refine hk _ ?_;simp[Br,AL]
    ·exact hc i hi
  have DA:∀q N' n' t',J q=some (b,N')->h.ob q=.ro n' t'->n'<=off->OR P J w' w0.heap.size (.ro n' t') b N':=λq N' n' t' hq TB F7=>by
   have:=H.obj q b N' hq
   rw[TB] at this;cases this with
   |ro _ _ _ _ WC T' fz hw2 L8 Ie CV =>
   rw[hw] at hw2;simp at hw2;obtain⟨rfl,rfl,rfl⟩:=hw2;refine .ro _ _ _ _ _ T _ FM (by rw[aR _ _ _ EK];exact L8) (λi u hi hu=>?_) CV;rw[aX _ _ _ _ EK,Bu (by omega)] at hu;exact Ie i u hi hu
  split at e
  ·rename_i Kj
   have Kj:=Ad Kj;rw[cT] at e;refine⟨_,Vs,T,e,hw,EK,?_,.of λq hq=>by rw[bY,Bc (λe=>by subst e;rw[ho] at hq;cases hq)]⟩;rw[<-DO] at EJ DA;rw[DO];rw[<-DO];refine H.upd ho hB (by rw[bY,Bu rfl];exact EJ BW CB ha hf) (λq hq=>.inl (by rw[bY,Bc (Db hq)])) λq N' hq G1=>?_
   have hs:=H.sep o q b N N' (Db hq) ho G1;rw[C0] at hs;rw[bY,Bc (Db hq),bY,Bu rfl];rcases hs with hs|⟨n',t',hs,I0,IA⟩
   ·rw[hs];exact⟨.dead _ _,Sh.dead _ _,rfl⟩
   ·rw[hs];exact⟨DA q N' n' t' G1 hs (by omega),.inr ⟨n',t',rfl,I0,IA⟩,rfl⟩
  ·rw[jd,cT] at e
   refine⟨_,Vs,T,e,hw,EK,?_,.of λq hq=>by
    rw[bY,Bc (λe=>by subst e;rw[ho] at hq;cases hq),pN,Bc (λhm=>ha q hm hq)]⟩
   rw[<-DO] at EJ DA;rw[DO];rw[<-DO];refine H.upd ho hB (by rw[bY,Bu rfl];exact EJ [] 0 (λa ha=>by cases ha) (Di _)) (λq hq=>?_) λq N' hq G1=>?_
   ·rw[bY,Bc (Db hq),pN]
    split
    ·exact .inr rfl
    ·exact .inl rfl
   ·have hs:=H.sep o q b N N' (Db hq) ho G1
    rw[C0] at hs
    have hd:((vU BW h).put .dead (.row n (dE vs off t) [] 0 T ex) o).ob q=.dead:=by
     rw[bY,Bc (Db hq),pN];rcases hs with hs|⟨n',t',hs,I0,IA⟩
     ·rw[hs];simp
     ·rw[Bu I0]
    rw[hd];exact⟨.dead _ _,Sh.dead _ _,rfl⟩
 ·cases e
def WG(P:Program)(w0:Base)(w:World)(J:Rho)(tmps:Array Value)(ds:List Deferred)(o:Oper)(h:T O)(nx:Q)(v:V)(h':T O)(nx':Q):Prop :=
 ∃w' J' u,((execOp (ev tmps ds) o).run P w=.ok (.value u) w'\/((execOp (ev tmps ds) o).run P w=.ok .skip w'/\u=Go.undef))/\VR J' v u/\HR P w0 J' h' nx' w'/\Keep nx.nat J h J' h'/\nx.nat<=nx'.nat
section
variable {dst:Option Nat}{ty:TypeId}{pos:String}{AJ:Array Edge}{BE:Option (Nat×Bool)}{k:V->T O->Q->Res}
theorem aZ5(H:HR P w0 J h nx w){t:TypeId}{a x:Operand}{n:Nat}(hs:aP P t=some n)(hT:XR J tm tmps (Op.operands (.store t a x)).toList)(e:wK (.st n (aE P a) (aE P x)) tm h nx k=.ok r) :
  ∃v h' nx',k v h' nx'=.ok r/\WG P w0 w J tmps ds ⟨dst,.store t a x,ty,pos,AJ,BE⟩ h nx v h' nx':=by
 simp only[wK] at e;obtain⟨c,e1,hc⟩:=opd (ds:=ds) (o:=⟨dst,.store t a x,ty,pos,AJ,BE⟩) H hT (by simp[Op.operands]) e;obtain⟨o,off,ho,e2⟩:=zY e1;subst ho;obtain⟨d,e3,hd⟩:=opd (ds:=ds) (o:=⟨dst,.store t a x,ty,pos,AJ,BE⟩) H hT (by simp[Op.operands]) e2;obtain⟨l,hl,e4⟩:=rB e3;rw[cJ] at e4;obtain⟨hg,e5⟩:=bP e4;obtain⟨b,N,hv,hb⟩:=hc.inv_ptr;obtain⟨g1,g2,g3⟩:=hd.cells hl;obtain⟨h',Vs,T,f1,f2,f3,f4,f5⟩:=sj H hb g1 g2 e5;refine⟨_,_,_,f1,_,J,_,.inr ⟨?_,rfl⟩,VR.undef,f4,f5,Af _⟩
 have BC:(ev tmps ds x).cells.size=n:=by
  have:=g1.1
  rw[Aa hg] at this;simpa using this.symm
 have:=eQ (P:=P) (t:=t) (o:=off) (v:=ev tmps ds x) (by rw[BC];exact hs) f2 g3 (by simpa using f3)
 simp[execOp,hv,Instr.storeAt,Instr.sureAddr,this]
theorem HR.putMap(H:HR P w0 J h nx w){o:Q}{b N:Nat}{x x':O}{y:Obj}(ho:J o=some (b,N))(hx:h.ob o=x)(he:NZ x=true)(hr:∀n t BW CB T ex,x≠.row n t BW CB T ex)(HW:NZ x'=true)(TA:∀n t BW CB T ex,x'≠.row n t BW CB T ex)
  (hB:w0.heap.size<=b) (hn:OR P J (w.putObj b y) w0.heap.size x' b N):HR P w0 J (h.put .dead x' o) nx (w.putObj b y)/\Keep nx.nat J h J (h.put .dead x' o):=by
 refine⟨H.upd ho hB (by rw[bY,Bu rfl];exact hn) (λq hq=>.inl (by rw[bY,Bc (Db hq)])) λq N' hq G1=>?_,.of λq hq=>by rw[bY,Bc (λe=>by subst e;rw[ho] at hq;cases hq)]⟩;have hs:=H.sep o q b N N' (Db hq) ho G1;rw[hx] at hs
 have hd:h.ob q=.dead:=by
  cases x<;>first|exact hs|exact absurd rfl (hr _ _ _ _ _ _)|cases he
 rw[bY,Bc (Db hq),hd];exact⟨.dead _ _,Sh.dead _ _,rfl⟩
theorem yi(H:HR P w0 J h nx w){s:KK}{t:TypeId}{x z:V}{f:V->V}{ux:Value}(hk:KT P s t)(hx:VR J x ux) :
  ∀{es:List (V×V)}{AK:List MapEntry}{i:Nat}{k:List (V×V)->Nat->V->Res},MR J es AK->sU s h x f z es i k=.ok r ->
  (∃DC,k DC (i+es.length) z=.ok r/\DC=es++[(x,f z)]/\(Instr.findAsking t ux AK i).run P w=.ok none w/\∀d r',P.underlying t=some d->Instr.findNow d ux AK i=some r'->r'=none) \/
   ∃DC j c e',k DC (i+j) c=.ok r/\AK[j]?=some e'/\VR J c e'.val/\DC=es.set j (x,f c)/\(Instr.findAsking t ux AK i).run P w=.ok (some (i+j,e'.val)) w /\
    (∀d r',P.underlying t=some d->Instr.findNow d ux AK i=some r'->r'=some (i+j,e'.val))/\Instr.sameBits 10000 e'.key ux=true
 |[],[],i,k,hm,e=>.inl ⟨_,e,rfl,by simp[Instr.findAsking],λd r' _ h=>by simp[Instr.findNow] at h;exact h.symm⟩
 |[],_::_,i,k,hm,e=>by have:=hm.len;simp at this
 |_::_,[],i,k,hm,e=>by have:=hm.len;simp at this
 |(y,v)::es,en::AK,i,k,hm,e=>by
  simp only[sU] at e;obtain⟨b,e,s1,s2,s3⟩:=jb H hk hx (hm.key 0 (y,v) en rfl rfl) e;have Sp:MR J es AK:=⟨by have:=hm.len;simpa using this,λi p e h1 h2=>hm.key (i+1) p e (by simpa using h1) (by simpa using h2),λi p e h1 h2=>hm.val (i+1) p e (by simpa using h1) (by simpa using h2)⟩
  cases b with
  |true =>
   refine .inr ⟨_,0,v,en,e,rfl,hm.val 0 (y,v) en rfl rfl,rfl,by simp[Instr.findAsking,s1],λd r' hd h=>?_,s3 rfl⟩;simp only[Instr.findNow] at h
   split at h
   ·simpa using h.symm
   ·rename_i hs;have:=s2 d _ hd hs;cases this
   ·cases h
  |false =>
   simp only at e;rw[aF] at e
   have now:∀d r',P.underlying t=some d->Instr.findNow d ux (en::AK) i=some r'->Instr.findNow d ux AK (i+1)=some r':=λd r' hd h=>by
    simp only[Instr.findNow] at h
    split at h
    ·rename_i hs;have:=s2 d _ hd hs;cases this
    ·exact h
    ·cases h
   rcases yi H hk hx (i:=i+1) Sp e with⟨DC,f1,f2,f3,f4⟩|⟨DC,j,c,e',f1,f2,f3,f4,f5,f6,f7⟩
   ·refine .inl ⟨(y,v)::DC,?_,by rw[f2];rfl,by simp[Instr.findAsking,s1,f3],λd r' hd h=>f4 d r' hd (now d r' hd h)⟩
    rw[An,show i+(es.length+1)=i+1+es.length by omega];exact f1
   ·refine .inr ⟨(y,v)::DC,j+1,c,e',?_,by simpa using f2,f3,by rw[f4];rfl,?_,λd r' hd h=>?_,f7⟩
    ·rw[show i+(j+1)=i+1+j by omega];exact f1
    ·rw[show i+(j+1)=i+1+j by omega];simp[Instr.findAsking,s1,f5]
    ·rw[show i+(j+1)=i+1+j by omega];exact f6 d r' hd (now d r' hd h)
theorem df{a b:Value}(h:Instr.sameBits 10000 a b=true):(Instr.keyThatStays a b).run P w=.ok b w:=by simp[Instr.keyThatStays,h]
theorem MR.push{es:List (V×V)}{AK:List MapEntry}{x z:V}{g:MapEntry}(h:MR J es AK)(hx:VR J x g.key)(hz:VR J z g.val):MR J (es++[(x,z)]) (AK++[g]):=by
 have hl:=h.len
 have both:∀(i:Nat) p e,(es++[(x,z)])[i]?=some p->(AK++[g])[i]?=some e->VR J p.1 e.key/\VR J p.2 e.val:=λi p e hp he=>by
  rw[Ck] at hp he;by_cases hi:i<es.length
  ·rw[Bu hi] at hp
   rw[Bu (by omega)] at he;exact⟨h.key i p e hp he,h.val i p e hp he⟩
  ·rw[Bc hi] at hp
   rw[Bc (by omega)] at he;have h2:i-es.length<1:=by have:=(Ab.1 hp).1;simpa using this
   rw[show i-es.length=0 by omega] at hp;rw[show i-AK.length=0 by omega] at he;simp at hp he;subst hp;subst he;exact⟨hx,hz⟩
 exact⟨by simp[hl],λi p e hp he=>(both i p e hp he).1,λi p e hp he=>(both i p e hp he).2⟩
theorem MR.set{es:List (V×V)}{AK:List MapEntry}{p:V×V}{g:MapEntry}{j:Nat}(h:MR J es AK)(hx:VR J p.1 g.key)(hz:VR J p.2 g.val):MR J (es.set j p) (AK.set j g):=by
 refine⟨by simp[h.len],λi q e hq he=>?_,λi q e hq he=>?_⟩
 all_goals
  by_cases Gw:j=i
  ·subst Gw
   rw[List.getElem?_set_self' ] at *
   simp_all
   try grind
  ·rw[Dj Gw] at *
   first|exact h.key i q e hq he|exact h.val i q e hq he
theorem Born.push{AK:List MapEntry}{cl:Nat}(h:Born AK cl)(a b:Value):Born (AK++[⟨a,b,cl⟩]) (cl+1):=by
 refine⟨by simp[h.1],λi e he=>?_⟩;rw[Ck] at he
 split at he
 ·exact h.2 i e he
 ·have h2:i-AK.length<1:=by have:=(Ab.1 he).1;simpa using this
  rw[show i-AK.length=0 by omega] at he;simp at he;subst he
  have:=h.1
  simp only;omega
theorem Born.set{AK:List MapEntry}{cl j:Nat}{e g:MapEntry}(h:Born AK cl)(hj:AK[j]?=some e)(hb:g.born=e.born):Born (AK.set j g) cl:=by
 refine⟨by simpa using h.1,λi x hx=>?_⟩;by_cases Gw:j=i
 ·subst Gw
  have AL:=(Ab.1 hj).1;rw[Ge AL] at hx;simp at hx;subst hx;rw[hb];exact h.2 j e hj
 ·rw[Dj Gw] at hx
  exact h.2 i x hx
end
end
section
open Go.AM (oneC overwrite aX aR run_underlying run_sizeOf aU aP aM aC aO bO cE bytes_beq run_getObj run_setObj eQ b8)
variable {P:Program}{w0:Base}{w:World}{J:Rho}{h:T O}{nx:Q}{tm:T V}{tmps:Array Value}{ds:List Deferred}{r v:V}
section
variable {dst:Option Nat}{ty:TypeId}{pos:String}{AJ:Array Edge}{BE:Option (Nat×Bool)}{k:V->T O->Q->Res}
theorem so(AK:List MapEntry)(i:Nat):(⟨AK⟩:Array MapEntry)[i]?=AK[i]?:=by simp
theorem aBh(AK:List MapEntry)(e:MapEntry):(⟨AK⟩:Array MapEntry).push e=⟨AK++[e]⟩:=by apply Cp;simp
theorem py(AK:List MapEntry)(j:Nat)(f:MapEntry->MapEntry)(e:MapEntry)(he:AK[j]?=some e):(⟨AK⟩:Array MapEntry).modify j f=⟨AK.set j (f e)⟩:=by
 apply Cp;apply Fg;intro i;have AL:=(Ab.1 he).1;rw[Cn,Gp,so];show _=(AK.set j (f e))[i]?;by_cases Gw:j=i
 ·subst Gw
  rw[Bu rfl,he,Ge AL];rfl
 ·rw[Bc Gw,Dj Gw]
theorem HR.setMap(H:HR P w0 J h nx w){o:Q}{b N:Nat}{es DC:List (V×V)}{ET:List MapEntry}{NR:Nat}(ho:J o=some (b,N))(D8:h.ob o=.map es\/h.ob o=.mapd es)(hB:w0.heap.size<=b)(hb:b<w.heap.size)(hm:MR J DC ET)
  (Ok:h.ob o=.map es->Born ET NR):HR P w0 J (h.put .dead (Py (h.ob o) DC) o) nx (w.putObj b (.map ⟨ET⟩ NR))/\Keep nx.nat J h J (h.put .dead (Py (h.ob o) DC) o):=by
 rcases D8 with D8|D8
 ·rw[D8]
  exact H.putMap ho D8 rfl (λ_ _ _ _ _ _ e=>by cases e) rfl (λ_ _ _ _ _ _ e=>by cases e) hB (.map _ _ _ _ _ hB (World.putObj_heap_same hb) hm (Ok D8))
 ·rw[D8]
  exact H.putMap ho D8 rfl (λ_ _ _ _ _ _ e=>by cases e) rfl (λ_ _ _ _ _ _ e=>by cases e) hB (.mapd _ _ _ _ _ hB (World.putObj_heap_same hb) hm)
theorem HR.map'(H:HR P w0 J h nx w){o:Q}{b N:Nat}{es:List (V×V)}(ho:J o=some (b,N))(hm:h.ob o=.map es\/h.ob o=.mapd es):∃(AK:List MapEntry)(cl:Nat),w.heap[b]?=some (.map ⟨AK⟩ cl)/\MR J es AK/\w0.heap.size<=b/\(h.ob o=.map es->Born AK cl):=by
 have:=H.obj o b N ho
 rcases hm with hm|hm
 ·rw[hm] at this
  cases this with|map _ AK cl _ _ hb hw O8 hc=>exact⟨AK,cl,hw,O8,hb,λ_=>hc⟩
 ·rw[hm] at this
  cases this with|mapd _ AK cl _ _ hb hw O8=>exact⟨AK,cl,hw,O8,hb,λe=>by rw[hm] at e;cases e⟩
theorem YM(H:HR P w0 J h nx w){t el:TypeId}{s:KK}{m key x:Operand}{op:Op}(BK:op=.mapUpdate t m key x\/op=.insert t m key x)(ht:px P t=some (s,el))(hT:XR J tm tmps op.operands.toList)(e:wK (.mu s (aE P m) (aE P key) (aE P x)) tm h nx k=.ok r) :
  ∃v h' nx',k v h' nx'=.ok r/\WG P w0 w J tmps ds ⟨dst,op,ty,pos,AJ,BE⟩ h nx v h' nx':=by
 have hops:op.operands=#[m,key,x]:=by rcases BK with rfl|rfl<;>rfl
 simp only[wK] at e;obtain⟨c,e1,hc⟩:=opd (ds:=ds) (o:=⟨dst,op,ty,pos,AJ,BE⟩) H hT (by simp[hops]) e;obtain⟨kv,e2,RC⟩:=opd (ds:=ds) (o:=⟨dst,op,ty,pos,AJ,BE⟩) H hT (by simp[hops]) e1;obtain⟨xv,e3,K9⟩:=opd (ds:=ds) (o:=⟨dst,op,ty,pos,AJ,BE⟩) H hT (by simp[hops]) e2;obtain⟨e4,TN⟩:=ja e3;cases c<;>simp only at e4<;>first|cases e4|skip
 rename_i o;rw[bV] at e4;obtain⟨es,D8,e5⟩:=tZ e4;obtain⟨b,N,hm,hb⟩:=hc.inv_map;obtain⟨AK,cl,g1,g2,g3,g4⟩:=H.map' hb D8;obtain⟨kt,hu,La⟩:=wc ht;obtain⟨d,hd⟩:=La.desc;have AL:=(Ai.1 g1).1;have AN:=run_getObj (P:=P) g1 (by simp);have fD:=λo'=>run_setObj (P:=P) (o':=o') g1 (by simp)
 have Hi:=run_checkKey (w:=w) La RC TN false 9998
 have fin:∀DC ET NR,k V.undef (h.put .dead (Py (h.ob o) DC) o) nx=.ok r->MR J DC ET->(h.ob o=.map es->Born ET NR)->(Instr.mapUpdate t (ev tmps ds m) (ev tmps ds key) (ev tmps ds x)).run P w=.ok () (w.putObj b (.map ⟨ET⟩ NR)) ->
   ∃v h' nx',k v h' nx'=.ok r/\WG P w0 w J tmps ds ⟨dst,op,ty,pos,AJ,BE⟩ h nx v h' nx':=λDC ET NR hk O8 Th BA=>by
  obtain⟨f1,f2⟩:=H.setMap hb D8 g3 AL O8 Th;refine⟨_,_,_,hk,_,J,_,.inr ⟨?_,rfl⟩,VR.undef,f1,f2,Af _⟩;rcases BK with rfl|rfl
  ·simp[execOp,BA]
  ·simp[execOp,BA]
 rcases yi (i:=0) H La RC g2 e5 with⟨DC,f1,f2,f3,f4⟩|⟨DC,j,c',e',f1,f2,f3,f4,f5,f6,f7⟩
 ·rw[cT] at f1
  have Tb:=run_findKey hd f3 f4;subst f2;refine fin _ (AK++[⟨ev tmps ds key,ev tmps ds x,cl⟩]) (cl+1) f1 (g2.push RC K9) (λh1=>(g4 h1).push _ _) ?_;rw[hm];simp only[Instr.mapUpdate,Sem.run_bind,run_underlying hu,Result.andThen_ok,AN,Hi,Tb,fD,aBh]
 ·rw[cT] at f1
  have Tb:=run_findKey hd f5 f6;subst f4;refine fin _ (AK.set j { e' with key:=ev tmps ds key,val:=ev tmps ds x }) cl f1 (g2.set RC K9) (λh1=>(g4 h1).set f2 rfl) ?_;rw[hm]
  have IB:(((⟨AK⟩:Array MapEntry)[0+j]?).map (·.key)).getD (ev tmps ds key)=e'.key:=by
   rw[Bo,so,f2];rfl
  have A7:(Instr.keyThatStays ((((⟨AK⟩:Array MapEntry)[0+j]?).map (·.key)).getD (ev tmps ds key)) (ev tmps ds key)).run P w=.ok (ev tmps ds key) w:=by
   rw[IB];exact df f7
  simp only[Instr.mapUpdate,Sem.run_bind,run_underlying hu,Result.andThen_ok,AN,Hi,Tb,A7,fD];rw[Bo,py _ _ _ _ f2]
end
end
section
open Go.AM (oneC overwrite aX aR run_underlying run_sizeOf run_typeInfo aU aP aM aC aO cE bytes_beq b8 dG cell_of_heap jH)
variable {P:Program}{w0:Base}{w:World}{J:Rho}{h:T O}{nx:Q}{tm:T V}{tmps:Array Value}{ds:List Deferred}{r v:V}
def oG(s:List UInt8):List Value:=s.map λb=>.int .u8 b.toNat
theorem nq:∀{l n:Nat}{s:List UInt8}{k:List V->Res},s.length=l->packL s=n->Ln l n k=.ok r->∃cs,k cs=.ok r/\VRs J cs (oG s)/\∀c∈cs,isCell c=true
 |0,n,[],k,hl,hp,e=>⟨[],e,.nil,by simp⟩
 |0,n,_::_,k,hl,hp,e=>by simp at hl
 |l+1,n,[],k,hl,hp,e=>by simp at hl
 |l+1,n,b::s,k,hl,hp,e=>by
  simp only[Ln,aF] at e;have hb:b.toNat < 256:=b.toNat_lt;simp only[packL] at hp;have h1:n%256=b.toNat:=by omega
  have h2:n/256=packL s:=by omega
  rw[h1,h2] at e;obtain⟨cs,g1,g2,g3⟩:=nq (s:=s) (by simpa using hl) rfl e
  exact⟨_,g1,.cons (.int _ _) g2,λc hc=>by
   rcases Au.1 hc with rfl|hc
   ·rfl
   ·exact g3 c hc⟩
theorem rA(H:HR P w0 J h nx w){sz:Nat}{v:V}{u:Value}{k:Nat->List V->Res}(hv:VR J v u)(e:iS sz v h k=.ok r) :
  ∃n cs us,k n cs=.ok r/\us.length=n*sz/\VRs J cs us/\(∀c∈cs,isCell c=true)/\(Builtin.lenOf u).run P w=.ok n w/\(∀w1:World,w1.heap=w.heap->(Builtin.firstCells sz n u).run P w1=.ok ⟨us⟩ w1)/\((∃s,u=.string s)\/∃a cap,u=.slice a n cap):=by
 have sl:∀{o:Q}{off len cap b N:Nat},J o=some (b,N)->u=.slice (some ⟨b,off,none⟩) len cap->(match len with|0=>k 0 []|len=>mD h o off (len*sz) λl=>k len l)=.ok r ->
   ∃n cs us,k n cs=.ok r/\us.length=n*sz/\VRs J cs us/\(∀c∈cs,isCell c=true)/\(Builtin.lenOf u).run P w=.ok n w/\(∀w1:World,w1.heap=w.heap->(Builtin.firstCells sz n u).run P w1=.ok ⟨us⟩ w1)/\((∃s,u=.string s)\/∃a cap,u=.slice a n cap):=λ{o off len cap b N} hb hu e=>by
  subst hu
  split at e
  ·exact⟨0,[],[],e,by simp,.nil,by simp,by simp[Builtin.lenOf],λw1 _=>by simp[Builtin.firstCells,loadCells,loadCellsFrom],.inr ⟨_,_,rfl⟩⟩
  ·obtain⟨n,t,h1,h2,e1⟩:=bu e
   obtain⟨us,g1,g2,g3,g4⟩:=H.cells hb h1 h2;exact⟨_,_,us,e1,g1,g3,g4,by simp[Builtin.lenOf],λw1 GX=>dG g1 λp x hx=>(AM.cell_congr (by rw[GX]) _).trans (g2 p x hx),.inr ⟨_,_,rfl⟩⟩
 cases hv with
 |nils=>exact⟨0,[],[],e,by simp,.nil,by simp,by simp[Builtin.lenOf],λw1 _=>by simp[Builtin.firstCells],.inr ⟨_,_,rfl⟩⟩
 |sl o off len cap b N hb hc=>exact sl hb rfl e
 |su o off len GG b N cap hb hc hr=>exact sl hb rfl e
 |se a cap=>exact⟨0,[],[],e,by simp,.nil,by simp,by simp[Builtin.lenOf],λw1 _=>by simp[Builtin.firstCells,loadCells,loadCellsFrom],.inr ⟨_,_,rfl⟩⟩
 |rsl o off len b B cap hb hc =>
  have e:(bw h o off (len*sz) λl=>k len l)=.ok r:=e;obtain⟨n,t,h1,h2,e1⟩:=vn e;obtain⟨us,g1,g2,g3,g4⟩:=H.rcells hb h1 h2;exact⟨_,_,us,e1,g1,g3,g4,by simp[Builtin.lenOf],λw1 GX=>dG (o:=B+off) g1 λp x hx=>by rw[Dc];exact(AM.cell_congr (by rw[GX]) _).trans (g2 p x hx),.inr ⟨_,_,rfl⟩⟩
 |re a cap =>
  have e:k 0 []=.ok r:=e;exact⟨0,[],[],e,by simp,.nil,by simp,by simp[Builtin.lenOf],λw1 _=>by cases a<;>simp[Builtin.firstCells,loadCells,loadCellsFrom],.inr ⟨_,_,rfl⟩⟩
 |rz a =>
  have e:k 0 []=.ok r:=e;exact⟨0,[],[],e,by simp,.nil,by simp,by simp[Builtin.lenOf],λw1 _=>by cases a<;>simp[Builtin.firstCells,loadCells,loadCellsFrom],.inr ⟨_,_,rfl⟩⟩
 |rany _ _=>cases(show(.bad 62:Res)=.ok r from e)
 |rptr _ _ _ _ _=>cases(show(.bad 62:Res)=.ok r from e)
 |str l n s hl hn =>
  simp only[iS] at e;obtain⟨hg,e1⟩:=bP e;have hs:=Aa hg;subst hs;obtain⟨cs,g1,g2,g3⟩:=nq (J:=J) hl hn e1;refine⟨l,cs,oG s,g1,by simp[oG,hl],g2,g3,?_,λw1 _=>?_,.inl ⟨_,rfl⟩⟩
  ·have:(⟨⟨s⟩⟩:ByteArray).size=l:=hl
   simp[Builtin.lenOf,this]
  ·have hex:(⟨⟨s⟩⟩:ByteArray).extract 0 l=⟨⟨s⟩⟩:=by
    have:=ByteArray.extract_mk s 0 l
    rw[show(⟨⟨s⟩⟩:ByteArray)=ByteArray.mk s.toArray from rfl,this];simp[<-hl]
   simp only[Builtin.firstCells,hex]
   have:(⟨s⟩:Array UInt8).map (λb=>Value.int .u8 b.toNat)=⟨oG s⟩:=by apply Cp;simp[oG]
   rw[this];rfl
 |_=>cases e
section model
variable {ts:Array TypeId}{ty t1 t2 e:TypeId}{size AR BR n:Nat}{x:Value}{us:List Value}
theorem kK{base:Option Addr}{w':World}(h1:ts[0]?=some t1)(h2:ts[1]?=some t2)(FD:P.underlying t1=some (.slice e))(EG:∃d,P.underlying t2=some d/\∀k,d≠.int k)(BC:aP P e=some size)
  (hl:(Builtin.lenOf x).run P w=.ok n w) (hf:(Builtin.firstCells size n x).run P w=.ok ⟨us⟩ w) (C7:AR+n<=BR)
  (A7:match base with|some a=>(storeCells (a.add (AR*size)) us).run P w=.ok () w'|none=>w'=w) :
  (Builtin.append_ ts ty #[.slice base AR BR,x]).run P w=.ok (.slice base (AR+n) BR) w':=by
 obtain⟨d,EG,hd⟩:=EG;have h0:(#[.slice base AR BR,x]:Array Value)[0]?=some (.slice base AR BR):=rfl;have UK:(#[.slice base AR BR,x]:Array Value)[1]?=some x:=rfl;simp only[Builtin.append_,Sem.run_bind,h1,h2,h0,UK,run_underlying FD,run_underlying EG,run_sizeOf BC,Result.andThen_ok,Sem.run_pure];cases d<;>first|exact absurd rfl (hd _)|skip
 all_goals
  cases base with
  |none=>subst A7;simp[hl,hf,C7]
  |some a=>simp[hl,hf,C7,A7]
theorem uH{base:Option Addr}{z:Value}{old:List Value}(h1:ts[0]?=some t1)(h2:ts[1]?=some t2)(FD:P.underlying t1=some (.slice e))(EG:∃d,P.underlying t2=some d/\∀k,d≠.int k)(BC:aP P e=some size)
  (hz:(P.info? e).bind (·.zero)=some z) (IP:z.cells.size=size) (Lf:aC P e<=16384) (H3:0<aC P e) (GJ:AR+n<=4294967296)
  (hl:(Builtin.lenOf x).run P w=.ok n w) (hf:∀w1:World,w1.heap=w.heap->(Builtin.firstCells size n x).run P w1=.ok ⟨us⟩ w1) (Oh:∀w1:World,w1.heap=w.heap->(Builtin.firstCells size AR (.slice base AR BR)).run P w1=.ok ⟨old⟩ w1)
  (Jt:old.length=AR*size) (JP:us.length=n*size) (C7:¬AR+n<=BR) :
  ∃AZ rest,AR+n<=AZ/\(old++us++rest).length=AZ*size /\
   (Builtin.append_ ts ty #[.slice base AR BR,x]).run P w=.ok (.slice (some ⟨w.heap.size,0,none⟩) (AR+n) AZ) (w.drew.alloc (.cells ⟨old++us++rest⟩ e)):=by
 obtain⟨d,EG,hd⟩:=EG;obtain⟨ti,G9,K8⟩:=dL hz;have hbt:aC P e=ti.bytes:=by simp[aC,G9]
 have J7:=AM.nextslicecap_le (need:=AR+n) (c:=BR) (by omega)
 have Jv:¬Builtin.nextslicecap (AR+n) BR*ti.bytes>2^48:=by
  have h1:Builtin.nextslicecap (AR+n) BR*ti.bytes<=(2*(AR+n)+512)*16384:=Nat.mul_le_mul J7 (by rw[<-hbt];exact Lf);omega
 have HU:¬ti.bytes=0:=by rw[<-hbt];omega
 obtain⟨AZ,hnc,ID⟩:∃AZ,AR+n<=AZ/\(Question.appendCap (AR+n) BR e).cut (w.tape w.drawn (Question.appendCap (AR+n) BR e))=AZ :=
  ⟨_,by simp only[Question.cut];omega,rfl⟩
 obtain⟨w1,GX⟩:∃w1,w1=w.drew:=⟨_,rfl⟩
 have hw1h:w1.heap=w.heap:=by rw[GX];rfl
 have hfoq:(Question.appendCap (AR+n) BR e).forced=false:=rfl;refine⟨AZ,(Builtin.zeroCells z.cells (AZ-(AR+n))).toList,hnc,?_,?_⟩
 ·have e1:AZ*size=(AR+n)*size+(AZ-(AR+n))*size:=by rw[<-Cr];congr 1;omega
  simp only[Bm,Jt,JP,Array.length_toList,jH,IP];rw[e1,Cr]
 ·have h0:(#[.slice base AR BR,x]:Array Value)[0]?=some (.slice base AR BR):=rfl
  have UK:(#[.slice base AR BR,x]:Array Value)[1]?=some x:=rfl;simp only[Builtin.append_,Sem.run_bind,h1,h2,h0,UK,run_underlying FD,run_underlying EG,run_sizeOf BC,Result.andThen_ok,Sem.run_pure];cases d<;>first|exact absurd rfl (hd _)|skip
  all_goals
   simp[hl,C7,run_typeInfo G9,HU,Jv,hfoq,ID,<-GX,Oh w1 hw1h,hf w1 hw1h,aU hz,newRow,hw1h];congr 2;apply Cp;simp
end model
end
section
open Go.AM (oneC overwrite aX aR run_underlying run_sizeOf aU aP aM aC aO cE bytes_beq b8 cell_of_heap)
variable {P:Program}{w0:Base}{w:World}{J:Rho}{h:T O}{nx:Q}{tm:T V}{tmps:Array Value}{ds:List Deferred}{r v:V}
theorem HR.make(H:HR P w0 J h nx w){x:Obj}{N:Nat}{ob:O}(ho:OR P (J.set nx w.heap.size N) (w.alloc x) w0.heap.size ob w.heap.size N) :
  HR P w0 (J.set nx w.heap.size N) (h.put .dead ob nx) nx.succ (w.alloc x)/\Keep nx.nat J h (J.set nx w.heap.size N) (h.put .dead ob nx):=by
 have hq:=H.fresh nx (Af _);have H1:=H.pend hq ob (nx':=nx.succ) (by rw[Q.nat_succ];omega) (by rw[Q.nat_succ];omega);refine⟨H1.born hq (by rw[Q.nat_succ];omega) (by rw[bY,Bu rfl];exact ho),Rho.set_le hq,λq AL hn=>?_⟩;have BD:q≠nx:=λe=>by subst e;omega
 exact⟨by simp[Rho.set,BD,hn],by rw[bY,Bc (Db BD)]⟩
theorem HR.share(H:HR P w0 J h nx w){b N:Nat}{ob:O}(hb:b<w.heap.size)(ho:OR P (J.set nx b N) w w0.heap.size ob b N)(hs:∀q N',J q=some (b,N')->Sh ob (h.ob q) q/\NZ (h.ob q)=false) :
  HR P w0 (J.set nx b N) (h.put .dead ob nx) nx.succ w/\Keep nx.nat J h (J.set nx b N) (h.put .dead ob nx):=by
 have hq:=H.fresh nx (Af _);have hle:=Rho.set_le (b:=b) (N:=N) hq
 have FE:∀q b' N',J.set nx b N q=some (b',N')->(q=nx/\b'=b/\N'=N)\/(q≠nx/\J q=some (b',N')):=λq b' N' e=>by
  unfold Rho.set at e
  split at e
  ·simp at e;exact .inl ⟨by assumption,e.1.symm,e.2.symm⟩
  ·exact .inr ⟨by assumption,e⟩
 refine⟨⟨H.size,H.old,H.os,H.tape,H.output,λg hg=>?_,λq hn=>?_,λq b' N' e=>?_,λq b' N' e=>?_,λq q' b' N1 N2 BD e1 e2=>?_,λq hn=>?_,Rho.le_trans H.base hle⟩,hle,λq AL hn=>?_⟩
 ·obtain⟨N',e⟩:=H.glob g hg;exact⟨N',hle _ _ e⟩
 ·rw[Q.nat_succ] at hn
  unfold Rho.set;rw[Bc (λe=>by subst e;omega)];exact H.fresh q (by omega)
 ·rcases FE q b' N' e with⟨_,rfl,_⟩|⟨_,e⟩
  ·exact hb
  ·exact H.lt q b' N' e
 ·rcases FE q b' N' e with⟨rfl,rfl,rfl⟩|⟨BD,e⟩
  ·rw[bY,Bu rfl];exact ho
  ·rw[bY,Bc (Db BD)];exact(H.obj q b' N' e).mono hle rfl
 ·rcases FE q b' N1 e1 with⟨a1,a2,a3⟩|⟨h1,f1⟩
  ·rcases FE q' b' N2 e2 with⟨a4,_,_⟩|⟨h2,f2⟩
   ·exact absurd (a1.trans a4.symm) BD
   ·rw[a2] at f2
    rw[a1,bY,Bu rfl,bY,Bc (Db h2)];exact(hs q' N2 f2).1
  ·rcases FE q' b' N2 e2 with⟨a4,a5,a6⟩|⟨h2,f2⟩
   ·rw[a5] at f1
    rw[a4,bY,Bc (Db h1),bY,Bu rfl];exact Sh.of_not (hs q N1 f1).2
   ·rw[bY,Bc (Db h1),bY,Bc (Db h2)];exact H.sep q q' b' N1 N2 BD f1 f2
 ·rw[Q.nat_succ] at hn
  rw[bY,Bc (λe=>by subst e;omega)];exact H.dead q (by omega)
 ·have BD:q≠nx:=λe=>by subst e;omega
  exact⟨by simp[Rho.set,BD,hn],by rw[bY,Bc (Db BD)]⟩
theorem kc{b:Nat}{x:Obj}(h:w.heap[b]?=some x):w.putObj b x=w:=by
 unfold World.putObj;have hb:=Ai.1 h
 have:w.heap.setIfInBounds b x=w.heap:=by
  apply Fe;intro j;by_cases hj:b=j
  ·subst hj;obtain⟨E8,Lh⟩:=hb;simp[E8,Lh]
  ·simp[Bk hj]
 rw[this]
theorem HR.toRo(H:HR P w0 J h nx w){o:Q}{b N n CB ty:Nat}{t:T V}{BW:List Q}{ex:Bool}(ho:J o=some (b,N))(hr:h.ob o=.row n t BW CB ty ex){Vs us:List Value}{T:TypeId}{fz:Nat×Nat}(hw:w.heap[b]?=some (.cells ⟨Vs⟩ T (0,0)))(hu:n+us.length<=Vs.length\/us=[]) :
  HR P w0 J (h.put .dead (.ro n t) o) nx (w.putObj b (.cells ⟨overwrite Vs n us⟩ T fz))/\Keep nx.nat J h J (h.put .dead (.ro n t) o)/\∀q N',J q=some (b,N')->(h.put .dead (.ro n t) o).ob q=.dead\/q=o\/∃n' t',(h.put .dead (.ro n t) o).ob q=.ro n' t'/\q∈BW/\n'<=CB:=by
 have hO:=H.obj o b N ho;rw[hr] at hO;cases hO with
 |row _ _ _ _ _ _ _ _ vs hB DO hN hn hf he ha hx hk =>
 rw[hw] at DO;simp at DO;obtain⟨rfl,rfl⟩:=DO;have H5:=(Ai.1 hw).1;have EJ:(w.putObj b (.cells ⟨overwrite Vs n us⟩ T fz)).heap[b]?=some (.cells ⟨overwrite Vs n us⟩ T fz):=World.putObj_heap_same H5
 have hlen:(overwrite Vs n us).length=Vs.length:=by
  rcases hu with hu|rfl
  ·exact aR _ _ _ hu
  ·simp[overwrite]
 have AN:∀i u,i<n->(overwrite Vs n us)[i]?=some u->Vs[i]?=some u:=λi u hi HN=>by
  rcases hu with hu|rfl
  ·rw[aX _ _ _ _ hu,Bu hi] at HN;exact HN
  ·simpa[overwrite] using HN
 have DA:∀q N' n' t',J q=some (b,N')->h.ob q=.ro n' t'->n'<=n->OR P J (w.putObj b (.cells ⟨overwrite Vs n us⟩ T fz)) w0.heap.size (.ro n' t') b N':=λq N' n' t' hq TB F7=>by
  have:=H.obj q b N' hq
  rw[TB] at this;cases this with
  |ro _ _ _ _ WC T' fz' hw2 L8 Ie CV =>
  rw[hw] at hw2;simp at hw2;obtain⟨rfl,rfl,_⟩:=hw2;exact .ro _ _ _ _ _ _ _ EJ (by rw[hlen];exact L8) (λi u hi HN=>Ie i u hi (AN i u (by omega) HN)) CV
 have JU:∀q N',q≠o->J q=some (b,N')->h.ob q=.dead\/∃n' t',h.ob q=.ro n' t'/\q∈BW/\n'<=CB:=λq N' BD hq=>by
  have hs:=H.sep o q b N N' (Db BD) ho hq;rw[hr] at hs;exact hs
 refine⟨H.upd ho hB ?_ (λq hq=>.inl (by rw[bY,Bc (Db hq)])) λq N' hq G1=>?_,.of λq hq=>by rw[bY,Bc (λe=>by subst e;rw[ho] at hq;cases hq)],λq N' G1=>?_⟩
 ·rw[bY,Bu rfl]
  exact .ro _ _ _ _ _ _ _ EJ (by rw[hlen,hN];exact hn) (λi u hi HN=>hx i u hi (AN i u hi HN)) hk
 ·rw[bY,Bc (Db hq),bY,Bu rfl]
  rcases JU q N' hq G1 with h1|⟨n',t',h1,h2,h3⟩
  ·rw[h1];exact⟨.dead _ _,Sh.dead _ _,rfl⟩
  ·rw[h1];exact⟨DA q N' n' t' G1 h1 (by omega),trivial,rfl⟩
 ·by_cases hq:q=o
  ·exact .inr (.inl hq)
  ·rw[bY,Bc (Db hq)]
   rcases JU q N' hq G1 with h1|h1
   ·exact .inl h1
   ·exact .inr (.inr h1)
section app
variable {ts:Array TypeId}{ty t1 t2 e:TypeId}{sz:Nat}{k:V->T O->Q->Res}
def Rt(P:Program)(w0:Base)(w:World)(J:Rho)(h:T O)(nx:Q)(run:Result Value)(k:V->T O->Q->Res)(r:V):Prop :=
 ∃v h' nx' w' J' u,k v h' nx'=.ok r/\run=.ok u w'/\VR J' v u/\HR P w0 J' h' nx' w'/\Keep nx.nat J h J' h'/\nx.nat<=nx'.nat
theorem aCE(H:HR P w0 J h nx w){len m AZ:Nat}{old new:List V}{oldU us rest:List Value}{run:Result Value}(ho:VRs J old oldU)(hn:VRs J new us)(Jt:oldU.length=len*sz)(JP:us.length=m*sz)(D3:∀c∈old,isCell c=true)(MM:∀c∈new,isCell c=true)
  (Il:len+m<=AZ) (hlen:(oldU++us++rest).length=AZ*sz) (BA:run=.ok (.slice (some ⟨w.heap.size,0,none⟩) (len+m) AZ) (w.drew.alloc (.cells ⟨oldU++us++rest⟩ e))) (hk:lL e sz len m old new h nx k=.ok r) :
  Rt P w0 w J h nx run k r:=by
 unfold lL at hk;obtain⟨_,hk⟩:=bP hk;rw[cV,cV,aF,aF,cT,cY] at hk;have hoo:old.length=len*sz:=by rw[ho.1,Jt]
 have Iy:new.length=m*sz:=by rw[hn.1,JP]
 have hputs:dE new (len*sz) (dE old 0 .nil)=dE (old++new) 0 .nil:=by rw[qD,Bo,hoo]
 rw[hputs] at hk;have Hd:HR P w0 J h nx w.drew:=H.drawn _;have hq:=H.fresh nx (Af _);have hle:=Rho.set_le (b:=w.heap.size) (N:=AZ*sz) hq;have B7:=(ho.append hn).mono hle;have Om:=TL.puts (old++new) .nil;have BC:(old++new).length=(len+m)*sz:=by rw[Bm,hoo,Iy,Cr]
 have CN:∀c∈old++new,isCell c=true:=λc hc=>by
  rcases Bn.1 hc with h1|h1
  ·exact D3 c h1
  ·exact MM c h1
 obtain⟨f1,f2⟩:=Hd.make (x:=.cells ⟨oldU++us++rest⟩ e) (N:=AZ*sz) (ob:=.row ((len+m)*sz) (dE (old++new) 0 .nil) [] 0 e false) (by
  refine .row _ _ _ _ _ _ _ _ _ H.size (AM.heap_alloc_new (w:=w.drew) _) hlen (Cq _ Il) (Di _) (λh=>by cases h) (λa ha=>by cases ha) (λi u hi hu=>?_) λi hi=>?_
  ·have DZ:i<(old++new).length:=by rw[BC];exact hi
   rw[Om i (old++new)[i] (by simp[DZ])];refine B7.2 i _ u (by simp[DZ]) ?_;rw[Az (by rw[<-B7.1];exact DZ)] at hu;exact hu
  ·have DZ:i<(old++new).length:=by rw[BC];exact hi
   rw[Om i (old++new)[i] (by simp[DZ])];exact CN _ (Dx DZ))
 exact⟨_,_,_,_,_,_,hk,BA,.su _ _ _ _ _ _ _ Rho.set_same Il (by rw[Bo]),f1,f2,by rw[Q.nat_succ];omega⟩
theorem aJ3(H:HR P w0 J h nx w)(h1:ts[0]?=some t1)(h2:ts[1]?=some t2)(FD:P.underlying t1=some (.slice e))(EG:∃d,P.underlying t2=some d/\∀k,d≠.int k)(BC:aP P e=some sz)(CG:0<sz)
  {z:Value} (hz:(P.info? e).bind (·.zero)=some z) (IP:z.cells.size=sz) (Lf:aC P e<=16384) (H3:0<aC P e) {a:V} {ua x:Value} (ha:VR J a ua) {m:Nat} {new:List V} {us:List Value} (hn:VRs J new us) (JP:us.length=m*sz) (MM:∀c∈new,isCell c=true)
  (hl:(Builtin.lenOf x).run P w=.ok m w) (hf:∀w1:World,w1.heap=w.heap->(Builtin.firstCells sz m x).run P w1=.ok ⟨us⟩ w1) (hk:KI e sz a m new h nx k=.ok r) :
  Rt P w0 w J h nx ((Builtin.append_ ts ty #[ua,x]).run P w) k r:=by
 have MJ:=hn.oneC MM;have h0:m=0->us=[]:=λe=>by subst e;simpa using JP
 have Hs:∀{len:Nat}{base:Option Addr}{cap:Nat}{old:List V}{oldU:List Value},VRs J old oldU->oldU.length=len*sz->(∀c∈old,isCell c=true)->(∀w1:World,w1.heap=w.heap->(Builtin.firstCells sz len (.slice base len cap)).run P w1=.ok ⟨oldU⟩ w1)->¬len+m<=cap ->
   lL e sz len m old new h nx k=.ok r->Rt P w0 w J h nx ((Builtin.append_ ts ty #[.slice base len cap,x]).run P w) k r:=λ{len base cap old oldU} ho Jt D3 Oh C7 hg=>by
  have GJ:len+m<=4294967296:=by
   unfold lL at hg;exact Ad (bP hg).1
  obtain⟨AZ,rest,g1,g2,g3⟩:=uH (ty:=ty) h1 h2 FD EG BC hz IP Lf H3 GJ hl hf Oh Jt JP C7;exact aCE H ho hn Jt JP D3 MM g1 g2 g3 hg
 have D5:∀{len cap:Nat}{base:Option Addr}{v:V},m=0->len<=cap->VR J v (.slice base len cap)->k v h nx=.ok r->Rt P w0 w J h nx ((Builtin.append_ ts ty #[.slice base len cap,x]).run P w) k r:=λ{len cap base v} hm hc hv XT=>by
  have OU:=h0 hm;subst hm;refine⟨_,_,_,w,J,_,XT,kK (ty:=ty) h1 h2 FD EG BC hl (hf w rfl) (by omega) ?_,hv,H,Keep.refl _ _ _,Af _⟩;cases base with
  |none=>rfl
  |some a=>simp[OU,storeCells]
 cases ha with
 |nils =>
  simp only[KI] at hk
  split at hk
  ·exact D5 rfl (Af _) .nils hk
  ·rename_i hm
   exact Hs (old:=[]) (oldU:=[]) .nil (by simp) (by simp) (λw1 _=>by simp[Builtin.firstCells]) (λhle=>hm (by omega)) hk
 |sl o off len cap b N hb hc =>
  simp only[KI] at hk
  split at hk
  ·rename_i hle
   have hle:=Ad hle
   split at hk
   ·exact D5 rfl hc (.sl _ _ _ _ _ _ hb hc) hk
   ·obtain⟨h',Vs,T,f1,f2,f3,f4,f5⟩:=sj H hb hn MM hk
    rw[aF] at f1;have A7:=b8 (P:=P) (T:=T) us (off+len*sz) 0 w Vs f2 MJ (by simpa using f3);rw[Aw] at A7;exact⟨_,_,_,_,J,_,f1,kK (ty:=ty) h1 h2 FD EG BC hl (hf w rfl) hle (by simp only[cE];exact A7),.sl _ _ _ _ _ _ hb hle,f4,f5,Af _⟩
  ·rename_i hle
   have hle:¬len+m<=cap:=λh=>by rw[Ah h] at hle;cases hle
   obtain⟨n',cs,oldU,g1,g2,g3,g4,g5,g6,g7⟩:=rA H (.sl o off len cap b N hb hc) hk;have IA:n'=len:=by simpa[Builtin.lenOf] using g5.symm
   subst IA;exact Hs g3 g2 g4 g6 hle g1
 |su o off len GG b N cap hb hc hr =>
  simp only[KI] at hk;obtain⟨hg,hk⟩:=bP hk;have IW:=Aa hg
  split at hk
  ·refine D5 rfl hc ?_ hk
   rw[IW];exact .su _ _ _ _ _ _ _ hb hc hr
  ·rw[bV] at hk
   rw[<-IW] at hr
   split at hk
   ·rename_i n t BW CB Gz ex C0
    have hO:=H.obj o b N hb;rw[C0] at hO;cases hO with
    |row _ _ _ _ _ _ _ _ Vs hB hw hN hnN NC he ha hx IB =>
    split at hk
    ·rename_i hle
     have hle:=Ad hle
     have C7:len+m<=cap:=by
      have:(len+m)*sz<=cap*sz:=by omega
      exact Nat.le_of_mul_le_mul_right this CG
     obtain⟨h',WC,T,f1,f2,f3,f4,f5⟩:=sj H hb hn MM hk;rw[aF] at f1;have A7:=b8 (P:=P) (T:=T) us (off+len*sz) 0 w WC f2 MJ (by simpa using f3);rw[Aw] at A7;exact⟨_,_,_,_,J,_,f1,kK (ty:=ty) h1 h2 FD EG BC hl (hf w rfl) C7 (by simp only[cE];exact A7),.su _ _ _ _ _ _ _ hb C7 hr,f4,f5,Af _⟩
    ·obtain⟨ES,hk⟩:=bP hk
     simp only[Ac] at ES;obtain⟨⟨⟨q1,q2⟩,q3⟩,q4⟩:=ES;have q1:=Aa q1;have q2:=Aa q2;have q3:=Aa q3;have q4:=Ad q4;subst q2;rw[Bo] at q1 hr;rw[cV,aF,aF,cT,cT,cY] at hk;have hq:=H.fresh nx (Af _);have F7:o≠nx:=λe=>by subst e;rw[hb] at hq;cases hq
     have Jv:new.length=m*sz:=by rw[hn.1,JP]
     have row:∀{J':Rho}{w':World}{b' N':Nat}{L:List Value},J.le J'->w0.heap.size<=b'->w'.heap[b']?=some (.cells ⟨L⟩ Gz (0,0))->L.length=N'->n+m*sz<=N'->(∀i u,i<n->L[i]?=some u->VR J (t.at i) u)->(∀i,i<m*sz->L[n+i]?=us[i]?) ->
       OR P J' w' w0.heap.size (.row (n+m*sz) (dE new n t) (o::BW) n Gz false) b' N':=λ{J' w' b' N' L} hle hB' DO hL hN' hold EJ=>by
      refine .row _ _ _ _ _ _ _ _ L hB' DO hL hN' (by omega) (λh=>by cases h) (λa KC=>?_) (λi u hi hu=>?_) λi hi=>?_
      ·rcases Au.1 KC with rfl|KC
       ·rw[hle _ _ hb];simp
       ·cases e:J a with
        |none=>exact absurd e (ha a KC)
        |some y=>rw[hle a y e];simp
      ·rw[gW]
       by_cases G3:i<n
       ·rw[Bc (by omega)];exact(hold i u G3 hu).mono hle
       ·have hj:i-n<m*sz:=by omega
        rw[Bu ⟨by omega,by omega⟩];rw[show i=n+(i-n) by omega,EJ _ hj] at hu;refine(hn.2 (i-n) _ u ?_ hu).mono hle;simp[Br,Jv,hj]
      ·rw[gW]
       split
       ·refine MM _ ?_
        have hj:i-n<new.length:=by omega
        simp[Br,hj]
       ·exact IB i (by omega)
     by_cases C7:len+m<=cap
     ·have hmul:(len+m)*sz<=cap*sz:=Cq _ C7
      have hmul2:(len+m)*sz=len*sz+m*sz:=Cr _ _ _;have FJ:n+us.length<=Vs.length:=by rw[JP,hN];omega
      obtain⟨f1,f2,f3⟩:=H.toRo (fz:=(0,0)) hb C0 hw (.inl FJ);have A7:=b8 (P:=P) (T:=Gz) us (len*sz) 0 w Vs hw MJ (by rw[JP,hN];omega);rw[Aw,q1] at A7;have H5:=(Ai.1 hw).1;have hlw:(overwrite Vs n us).length=N:=by rw[aR _ _ _ FJ];exact hN
      obtain⟨s1,s2⟩:=f1.share (b:=b) (N:=N) (ob:=.row (n+m*sz) (dE new n t) (o::BW) n Gz false) (by simpa using H5)
       (row (Rho.set_le hq) hB (World.putObj_heap_same H5) hlw (by omega) (λi u hi hu=>by
        rw[aX _ _ _ _ FJ,Bu hi] at hu;exact hx i u hi hu) (λi hi=>by
        rw[aX _ _ _ _ FJ,Bc (by omega),Bu (by omega)];congr 1;omega))
       (λq N' G1=>by
        rcases f3 q N' G1 with h3|rfl|⟨n',t',h3,h4,h5⟩
        ·rw[h3];exact⟨Sh.dead _ _,rfl⟩
        ·rw[bY,Bu rfl];exact⟨.inr ⟨n,t,rfl,by simp,Af _⟩,rfl⟩
        ·rw[h3];exact⟨.inr ⟨n',t',rfl,by simp[h4],by omega⟩,rfl⟩)
      refine⟨_,_,_,_,_,_,hk,kK (ty:=ty) h1 h2 FD EG BC hl (hf w rfl) C7 (by simp only[cE,Bo,q1];exact A7),.su _ _ _ _ _ _ _ Rho.set_same C7 (by omega),s1,f2.trans s2,by rw[Q.nat_succ];omega⟩
     ·obtain⟨n',cs,oldU,g1,g2,g3,g4,g5,g6,g7⟩:=rA (k:=λ_ l=>.ok (.agg l)) H (sz:=sz) (.su o 0 len sz b N cap hb hc (by omega)) (r:=.agg (iV (len*sz) 0 t)) (by
       simp only[iS];cases len with
       |zero=>simp[iV]
       |succ len =>
        simp only[mD,bV,C0,db,mA];rw[show Nat.ble (0+(len+1)*sz) n=true from Ah (by omega)];rfl)
      have CK:cs=iV (len*sz) 0 t:=by simpa using g1
      have IA:n'=len:=by simpa[Builtin.lenOf] using g5.symm
      subst IA;subst CK;obtain⟨AZ,rest,c1,c2,c3⟩:=uH (ty:=ty) h1 h2 FD EG BC hz IP Lf H3 q4 hl hf g6 g2 JP C7;have Hd:HR P w0 J h nx w.drew:=H.drawn _;obtain⟨f1,f2,f3⟩:=Hd.toRo (us:=[]) (fz:=(0,0)) hb C0 (show w.drew.heap[b]?=_ from hw) (.inr rfl);have Qx:overwrite Vs n []=Vs:=by simp[overwrite]
      rw[Qx,kc (w:=w.drew) (show w.drew.heap[b]?=_ from hw)] at f1;have Qz:AZ*sz=AZ*sz:=rfl;have J8:(n'+m)*sz<=AZ*sz:=Cq _ c1;have hmul2:(n'+m)*sz=n'*sz+m*sz:=Cr _ _ _
      obtain⟨s1,s2⟩:=f1.make (x:=.cells ⟨oldU++us++rest⟩ e) (N:=AZ*sz) (ob:=.row (n+m*sz) (dE new n t) (o::BW) n Gz false)
       (row (Rho.set_le hq) H.size (by rw[<-q3];exact AM.heap_alloc_new (w:=w.drew) _) c2 (by omega) (λi u hi hu=>by
        rw[Aj,Az (by omega)] at hu;exact g3.2 i _ u (by rw[kA (by omega),Bo]) hu) (λi hi=>by
        rw[Aj,Bi (by omega),Az (by omega)];congr 1;omega))
      exact⟨_,_,_,_,_,_,hk,c3,.su _ _ _ _ _ _ _ Rho.set_same c1 (by omega),s1,f2.trans s2,by rw[Q.nat_succ];omega⟩
   ·cases hk
 |rz a =>
  have hk:(match m with
   |0=>k (.rr .z) h nx
   |m=>lL e sz 0 m [] new h nx k)=.ok r:=hk
  split at hk
  ·exact D5 rfl (Af _) (.rz _) hk
  ·rename_i hm
   exact Hs (old:=[]) (oldU:=[]) .nil (by simp) (by simp) (λw1 _=>by cases a<;>simp[Builtin.firstCells,loadCells,loadCellsFrom]) (λhle=>hm (by omega)) hk
 |rany _ _=>cases(show(.bad 66:Res)=.ok r from hk)
 |rptr _ _ _ _ _=>cases(show(.bad 66:Res)=.ok r from hk)
 |rsl _ _ _ _ _ _ _ _=>cases(show(.bad 66:Res)=.ok r from hk)
 |re _ _=>cases(show(.bad 66:Res)=.ok r from hk)
 |_=>cases hk
end app
end
section
open Go.AM (oneC overwrite aX aR run_underlying run_sizeOf aU aP aM aC aO cE bytes_beq b8 cell_of_heap)
variable {P:Program}{w0:Base}{w:World}{J:Rho}{h:T O}{nx:Q}{tm:T V}{tmps:Array Value}{ds:List Deferred}{r v:V}
variable {dst:Option Nat}{ty:TypeId}{pos:String}{AJ:Array Edge}{BE:Option (Nat×Bool)}{k:V->T O->Q->Res}
theorem aZ3(H:HR P w0 J h nx w){x y:Operand}{t u e:TypeId}{sz:Nat}{z:List V}{a:Array Operand}{ts:Array TypeId}(ha:a.toList=[x,y])(Jo:ts.toList=[t,u])(he:P.underlying t=some (.slice e))(hu:∃d,P.underlying u=some d/\∀k,d≠.int k)
  (hs:aP P e=some sz) (hz:oD P e=some z) (CG:0<sz) (Lf:aC P e<=16384) (H3:0<aC P e) (hT:XR J tm tmps (Op.operands (.call ⟨.builtin .append,a,ts⟩)).toList) (e:wK (.ap e sz (aE P x) (aE P y)) tm h nx k=.ok r) :
  ∃v h' nx',k v h' nx'=.ok r/\WG P w0 w J tmps ds ⟨dst,.call ⟨.builtin .append,a,ts⟩,ty,pos,AJ,BE⟩ h nx v h' nx':=by
 obtain⟨a⟩:=a;obtain⟨ts⟩:=ts;simp only at ha Jo;subst ha;subst Jo;simp only[wK] at e;obtain⟨c,e1,hc⟩:=opd (ds:=ds) (o:=⟨dst,.call ⟨.builtin .append,#[x,y],#[t,u]⟩,ty,pos,AJ,BE⟩) H hT (by simp[Op.operands,Call.operands]) e;obtain⟨d,e2,hd⟩:=opd (ds:=ds) (o:=⟨dst,.call ⟨.builtin .append,#[x,y],#[t,u]⟩,ty,pos,AJ,BE⟩) H hT (by simp[Op.operands,Call.operands]) e1;obtain⟨m,cs,us,e3,g1,g2,g3,g4,g5,_⟩:=rA H hd e2;obtain⟨_,e4⟩:=bP e3;obtain⟨zv,z1,z2,z3,z4,z5⟩:=qR (J:=J) hz
 have IP:zv.cells.size=sz:=by
  rw[hs] at z2
  have:=z3.1
  simp at this z2;omega
 obtain⟨v,h',nx',w',J',uu,f1,f2,f3,f4,f5,f6⟩:=aJ3 (ts:=#[t,u]) (ty:=ty) H (t1:=t) (t2:=u) rfl rfl he hu hs CG z1 IP Lf H3 hc g2 g1 g3 g4 g5 e4;refine⟨v,h',nx',f1,w',J',uu,.inl ?_,f3,f4,f5,f6⟩;simp[execOp,resolve,invoke,builtin];simp[ev] at f2;simp[f2]
theorem aZ4(H:HR P w0 J h nx w){s d e:TypeId}{x:Operand}(hs:P.underlying s=some .string)(hd:P.underlying d=some (.slice e))(he:P.underlying e=some (.int .u8))(hT:XR J tm tmps (Op.operands (.convert s d x)).toList)(e':wK (.sb (aE P x)) tm h nx k=.ok r) :
  ∃v h' nx',k v h' nx'=.ok r/\WG P w0 w J tmps ds ⟨dst,.convert s d x,ty,pos,AJ,BE⟩ h nx v h' nx':=by
 simp only[wK] at e';obtain⟨c,e1,hc⟩:=opd (ds:=ds) (o:=⟨dst,.convert s d x,ty,pos,AJ,BE⟩) H hT (by simp[Op.operands]) e';obtain⟨l,n,hn,e2⟩:=qX e1;subst hn;obtain⟨sl,hv,hl,hp⟩:=hc.inv_str;obtain⟨cs,e3,g2,g3⟩:=nq (J:=J) hl hp e2;rw[cV,cT,cY] at e3;have BA:=run_bytes_of_string (P:=P) w s d e ⟨⟨sl⟩⟩ hs hd he;have BC:(⟨⟨sl⟩⟩:ByteArray).size=l:=hl;rw[BC] at BA;generalize Il:grownCap w l 0 e=cap at BA;have J8:l<=cap:=by rw[<-Il];exact grownCap_ge _ _ _ _
 have M4:(bytesRow ⟨⟨sl⟩⟩ cap).toList.length=cap:=by simp[bytesRow,BC];omega
 have Hd:HR P w0 J h nx w.drew:=H.drawn _;have BM:cs.length=l:=by rw[g2.1];simp[oG,hl]
 have hq:=H.fresh nx (Af _)
 obtain⟨f1,f2⟩:=Hd.make (x:=.cells (bytesRow ⟨⟨sl⟩⟩ cap) e ((bytesRow ⟨⟨sl⟩⟩ cap).size,(bytesRow ⟨⟨sl⟩⟩ cap).size+1)) (N:=cap) (ob:=.ro l (dE cs 0 .nil)) (by
  refine .ro _ _ _ _ (bytesRow ⟨⟨sl⟩⟩ cap).toList _ _ (AM.heap_alloc_new (w:=w.drew) _) (by rw[M4];exact J8) (λi u hi hu=>?_) λi hi=>?_
  ·rw[TL.puts cs .nil i cs[i] (by simp[BM,hi])]
   refine(g2.mono (Rho.set_le hq)).2 i _ u (by simp[BM,hi]) ?_;have DZ:i<sl.length:=by omega
   have h2:=bytesRow_at ⟨⟨sl⟩⟩ cap i (by simpa using DZ);rw[Cn,h2] at hu;simp at hu;subst hu;simp[oG,DZ]
  ·rw[TL.puts cs .nil i cs[i] (by simp[BM,hi])]
   exact g3 _ (Dx _))
 refine⟨_,_,_,e3,_,_,.slice (some ⟨w.heap.size,0,none⟩) l cap,.inl ?_,.su _ _ _ _ _ _ _ Rho.set_same J8 (by omega),f1,f2,by rw[Q.nat_succ];omega⟩;simp[execOp,hv,BA]
end
section
open Go.AM (aP aM aC aO)
variable {P:Program}{w0:Base}{w:World}{J:Rho}{h:T O}{nx:Q}{tm:T V}{tmps:Array Value}{ds:List Deferred}{r v:V}
theorem aDA{o:Option WB}{b:WB}(hb:LM o=.w b):o=some b:=by
 cases o with
 |none=>cases hb
 |some p=>simp only[LM] at hb;cases hb;rfl
theorem n7{o:Option PB}{b:WB}(hb:Ha o=.w b):False:=by cases o<;>cases hb
theorem V4{o:Option AB}{b:WB}(hb:KZ o=.w b):False:=by cases o<;>cases hb
theorem aMy{t:TypeId}(h:∃u:Unit,(match P.underlying t with|some (.slice _)=>some ()|some .string=>some ()|_=>none)=some u):∃d,P.underlying t=some d/\∀k,d≠.int k:=by
 obtain⟨u,h⟩:=h
 split at h
 ·rename_i hu;exact⟨_,hu,λk e=>by cases e⟩
 ·rename_i hu;exact⟨_,hu,λk e=>by cases e⟩
 ·cases h
theorem aNU(H:HR P w0 J h nx w){o:Oper}{b:WB}{k:V->T O->Q->Res}(hb:bT P o=.w b)(hT:XR J tm tmps o.op.operands.toList)(e:wK b tm h nx k=.ok r) :
  ∃v h' nx',k v h' nx'=.ok r/\WG P w0 w J tmps ds o h nx v h' nx':=by
 obtain⟨dst,op,ty,pos,AJ,BE⟩:=o;cases op<;>simp only[bT] at hb
 case store t a x =>
  obtain⟨s,hs,hb⟩:=mF (aDA hb);subst hb;exact aZ5 H hs hT e
 case mapUpdate t m key x =>
  split at hb
  ·rename_i s el ht
   cases hb;exact YM H (.inl rfl) ht hT e
  ·cases hb
 case insert t m key x =>
  split at hb
  ·rename_i s el ht
   cases hb;exact YM H (.inr rfl) ht hT e
  ·cases hb
 case convert s d x =>
  split at hb
  ·cases hb
  ·rename_i hs hd
   split at hb
   ·rename_i he
    cases hb;exact aZ4 H hs hd he hT e
   ·cases hb
  ·cases hb
 case call c =>
  obtain⟨Mk,a,ts⟩:=c;cases Mk<;>simp only[gR] at hb
  ·cases hb
  ·cases hb
  ·split at hb
   ·rename_i ha Jo
    obtain⟨el,J9,hb⟩:=dL (aDA hb);obtain⟨u,hu,hb⟩:=dL hb;obtain⟨s,hs,hb⟩:=dL hb;obtain⟨z,hz,hb⟩:=dL hb
    split at hb
    ·rename_i hg
     simp at hb;subst hb;simp only[Ac] at hg;exact aZ3 H ha Jo (qJ J9) (aMy ⟨u,hu⟩) hs hz (dM hg.1.1) (Ad hg.1.2) (dM hg.2) hT e
    ·cases hb
   ·split at hb<;>cases hb
   ·cases hb
   ·cases hb
   ·cases hb
 case defer c=>split at hb<;>cases hb
 case alloc t=>exact(V4 hb).elim
 case box t x=>exact(V4 hb).elim
 case buildSlice t len parts=>exact(V4 hb).elim
 case makeMap t r'=>split at hb<;>cases hb
 case binOp op t x y yt=>cases hb
 case build t parts=>exact(n7 hb).elim
 case load t a=>exact(n7 hb).elim
 case unOp op t x=>cases op<;>cases hb
 case makeInterface t x=>split at hb<;>cases hb
 case makeFunc fn first caps=>split at hb<;>cases hb
 case slice t x lo hi mx =>
  split at hb
  ·cases hb
  ·split at hb
   ·cases hb
   ·exact(n7 hb).elim
  ·cases hb
 case fieldAddr t x f=>exact(n7 hb).elim
 case field t x f=>exact(n7 hb).elim
 case indexAddr t x i =>
  split at hb
  ·exact(n7 hb).elim
  ·exact(n7 hb).elim
  ·cases hb
 case index t x i =>
  split at hb
  ·cases hb
  ·exact(n7 hb).elim
  ·cases hb
 case lookup t m key ok =>
  split at hb
  ·exact(n7 hb).elim
  ·cases hb
 case typeAssert x xt t HK=>exact(n7 hb).elim
 all_goals cases hb
theorem aCd:∀{a b:V},RX a b=true->a=b:=by
 intro a b e;cases a<;>cases b<;>simp only[RX,Ac,Bx,Bj] at e
 all_goals first
  |rfl
  |(subst e;rfl)
  |(obtain⟨e1,e2⟩:=e;have h1:=tN e1;rw[rD] at e2;simp at e2;subst h1;subst e2;rfl)
  |(obtain⟨e1,e2⟩:=e;have h1:=Aa e1;have h2:=Aa e2;subst h1;subst h2;rfl)
  |(obtain⟨e1,e2⟩:=e;have h1:=Q.beq_iff.1 e1;have h2:=Aa e2;subst h1;subst h2;rfl)
  |(obtain⟨⟨⟨e1,e2⟩,e3⟩,e4⟩:=e;have h1:=Q.beq_iff.1 e1;have h2:=Aa e2;have h3:=Aa e3;have h4:=Aa e4;subst h1;subst h2;subst h3;subst h4;rfl)
  |(have h1:=Q.beq_iff.1 e;subst h1;rfl)
  |cases e
theorem u7:∀{l m:List V},Mi l m=true->l=m
 |[],[],_=>rfl
 |[],_::_,e=>by cases e
 |_::_,[],e=>by cases e
 |a::l,b::m,e=>by
  simp only[Mi] at e
  split at e
  ·rename_i h1
   rw[aCd h1,u7 e]
  ·cases e
theorem aK5{a b:V}(e:Lm a b=true):a=b:=by
 cases a<;>simp only[Lm] at e
 case agg l=>cases b<;>simp only[Bj] at e;rw[u7 e]
 case tup l=>cases b<;>simp only[Bj] at e;rw[u7 e]
 case fn f l l' =>
  cases b<;>simp only[Bj] at e
  simp only[Ac] at e;rw[Q.beq_iff.1 e.1,u7 e.2.1,u7 e.2.2]
 all_goals exact aCd e
end
end Go.CM
end
