import Derived.Test.YtoiocfngjchdiaaGreatDoorC03
import Derived.Laws.IdiomStrings
import Derived.Test.YtoiocfngjchdiaaGreatDoorA06
set_option linter.all false
noncomputable section
namespace Go.CM
section
open Go.AM (hV overwrite aX aP run_underlying run_sizeOf aS aU aW bC aQ bP cH bytes_beq mf qj heap_alloc_new heap_alloc_old eW b9)
variable {P:Program}{w0:cL}{w:World}{J:ak}{h:T O}{nx:Q}{tm:T V}{tmps:Array Value}{ds:List Deferred}{r v:V}
def OO:O->Bool
 |.dead=>false
 |.ro _ _=>false
 |.rb _ _=>false
 |_=>true
theorem Sh.dead(x:O)(q:Q):Sh x .dead q:=by cases x<;>simp[Sh]
theorem Sh.a1W{x y:O}{q:Q}(h:OO x=false):Sh x y q:=by cases x<;>first|trivial|cases h
theorem HR.jl(H:HR P w0 J h nx w){o:Q}{b N:Nat}{x:Obj}(ho:J o=some (b,N))(hB:w0.heap.size<=b){h':T O}
  (h1:OR P J (w.putObj b x) w0.heap.size (h'.ob o) b N) (h2:∀q,q≠o->h'.ob q=h.ob q\/h'.ob q=.dead)
  (h3:∀q N',q≠o->J q=some (b,N')->OR P J (w.putObj b x) w0.heap.size (h'.ob q) b N'/\Sh (h'.ob o) (h'.ob q) q/\OO (h'.ob q)=false):HR P w0 J h' nx (w.putObj b x):=by
 have Jw:∀b',b'≠b->(w.putObj b x).heap[b']?=w.heap[b']?:=λb' BC=>World.putObj_heap_other BC
 have BD:(w.putObj b x).heap.size=w.heap.size:=by simp
 refine⟨by rw[BD];exact H.size,λb' BC=>by rw[Jw b' (by omega)];exact H.old b' BC,H.os,H.tape,H.output,H.jt,H.fresh,λq b' N' e=>by rw[BD];exact H.lt q b' N' e,λq b' N' e=>?_,λq q' b' N1 N2 BA e1 e2=>?_,λq hq=>?_,H.base⟩
 ·by_cases hq:q=o
  ·subst hq
   rw[ho] at e;simp at e;obtain⟨rfl,rfl⟩:=e;exact h1
  ·by_cases BC:b'=b
   ·subst BC;exact(h3 q N' hq e).1
   ·rcases h2 q hq with h4|h4
    ·rw[h4];exact(H.obj q b' N' e).mono (ak.le_refl _) (Jw b' BC)
    ·rw[h4];exact .dead _ _
 ·by_cases hq:q=o
  ·subst hq
   rw[ho] at e1;simp at e1;obtain⟨rfl,rfl⟩:=e1;exact(h3 q' N2 (λe=>BA e.symm) e2).2.1
  ·by_cases KZ:q'=o
   ·subst KZ
    rw[ho] at e2;simp at e2;obtain⟨rfl,rfl⟩:=e2;exact Sh.a1W (h3 q N1 hq e1).2.2
   ·rcases h2 q hq with h4|h4
    ·rcases h2 q' KZ with h5|h5
     ·rw[h4,h5];exact H.sep q q' b' N1 N2 BA e1 e2
     ·rw[h5];exact Sh.dead _ _
    ·rw[h4];trivial
 ·rcases h2 q (λe=>by subst e;rw[H.fresh _ hq] at ho;cases ho) with h4|h4
  ·rw[h4];exact H.dead q hq
  ·exact h4
theorem ec.of{β:Nat}{h':T O}(hk:∀q,J q=none->h'.ob q=h.ob q):ec β J h J h':=⟨ak.le_refl _,λq _ hq=>⟨hq,hk q hq⟩⟩
theorem bZ(h:T O)(o:O)(p q:Q):(h.put .dead o p).ob q=if p=q then o else h.ob q:=T.q0 _ _ _ _ _
def wT:List Q->T O->T O
 |[],h=>h
 |q::qs,h=>wT qs (h.put .dead .dead q)
theorem a1A:∀(qs:List Q)(h:T O)(k:T O->aa),wS qs h k=k (wT qs h)
 |[],h,k=>rfl
 |q::qs,h,k=>by simp only[wS,c8,a1A qs,wT]
theorem qJ:∀(qs:List Q)(h:T O)(q:Q),(wT qs h).ob q=if q∈qs then .dead else h.ob q
 |[],h,q=>by simp[wT]
 |p::qs,h,q=>by
  simp only[wT,qJ qs,bZ];by_cases h1:q∈qs
  ·simp[h1]
  ·by_cases h2:p=q
   ·subst h2;simp
   ·simp[h1,h2,Dc h2]
theorem wq(H:HR P w0 J h nx w){o:Q}{b N off:Nat}{vs:List V}{us:List Value}{k:T O->aa}(ho:J o=some (b,N))(hv:a_ J vs us)(hk:∀c∈vs,ci c=true)(e:KQ o off vs h k=.ok r) :
  ∃h' Vs T,k h'=.ok r/\w.heap[b]?=some (.cells ⟨Vs⟩ T (0,0))/\off+us.length<=Vs.length/\HR P w0 J h' nx (w.putObj b (.cells ⟨overwrite Vs off us⟩ T (0,0)))/\ec nx.nat J h J h':=by
 unfold KQ at e;rw[bW] at e;have hO:=H.obj o b N ho
 split at e
 ·rename_i n t B4 CJ T ex DA
  rw[cK] at e;obtain⟨hg,e⟩:=bQ e;rw[dB] at e;have hle:=Ad hg;rw[DA] at hO;cases hO with
  |row _ _ _ _ _ _ _ _ Vs hB hw hN hn hf he ha hx hc =>
  have Hv:=(An.1 hw).1;have hlen:us.length=vs.length:=hv.1.symm;have ES:off+us.length<=Vs.length:=by rw[hlen];omega
  generalize DX:w.putObj b (.cells ⟨overwrite Vs off us⟩ T (0,0))=w';have F3:w'.heap[b]?=some (.cells ⟨overwrite Vs off us⟩ T (0,0)):=by rw[<-DX];exact World.putObj_heap_same Hv
  have ER:∀L6 LY,(∀a∈L6,J a≠none)->LY<=n->OR P J w' w0.heap.size (.row n (dK vs off t) L6 LY T ex) b N:=λL6 LY Kb N9=>by
   refine .row _ _ _ _ _ _ _ _ _ hB F3 (by rw[aP _ _ _ ES];exact hN) hn N9 he Kb (λi u hi hu=>?_) λi hi=>?_
   ·rw[aX _ _ _ _ ES] at hu
    rw[iE];by_cases g1:i<off
    ·rw[Br g1] at hu
     rw[Bf (by omega)];exact hx i u hi hu
    ·rw[Bf g1] at hu
     by_cases g2:i<off+us.length
     ·rw[Br g2] at hu
      have AL:i-off<vs.length:=by omega
      rw[Br ⟨by omega,by omega⟩];refine hv.2 (i-off) _ u ?_ hu;simp[Bw,AL]
     ·rw[Bf g2] at hu
      rw[Bf (by omega)];exact hx i u hi hu
   ·rw[iE]
    split
    ·rename_i Rt
     have AL:i-off<vs.length:=by omega
     refine hk _ ?_;simp[Bw,AL]
    ·exact hc i hi
  have DI:∀q N' n' t',J q=some (b,N')->h.ob q=.ro n' t'->n'<=off->OR P J w' w0.heap.size (.ro n' t') b N':=λq N' n' t' hq UH FZ=>by
   have:=H.obj q b N' hq
   rw[UH] at this;cases this with
   |ro _ _ _ _ XC T' fz qg LL Hg DB =>
   rw[hw] at qg;simp at qg;obtain⟨rfl,rfl,rfl⟩:=qg;refine .ro _ _ _ _ _ T _ F3 (by rw[aP _ _ _ ES];exact LL) (λi u hi hu=>?_) DB;rw[aX _ _ _ _ ES,Br (by omega)] at hu;exact Hg i u hi hu
  split at e
  ·rename_i I4
   have I4:=Ad I4;rw[c8] at e;refine⟨_,Vs,T,e,hw,ES,?_,.of λq hq=>by rw[bZ,Bf (λe=>by subst e;rw[ho] at hq;cases hq)]⟩;rw[<-DX] at ER DI;rw[DX];rw[<-DX];refine H.jl ho hB (by rw[bZ,Br rfl];exact ER B4 CJ ha hf) (λq hq=>.inl (by rw[bZ,Bf (Dc hq)])) λq N' hq HG=>?_
   have hs:=H.sep o q b N N' (Dc hq) ho HG;rw[DA] at hs;rw[bZ,Bf (Dc hq),bZ,Br rfl];rcases hs with hs|⟨n',t',hs,It,I2⟩
   ·rw[hs];exact⟨.dead _ _,Sh.dead _ _,rfl⟩
   ·rw[hs];exact⟨DI q N' n' t' HG hs (by omega),.inr ⟨n',t',rfl,It,I2⟩,rfl⟩
  ·rw[a1A,c8] at e
   refine⟨_,Vs,T,e,hw,ES,?_,.of λq hq=>by
    rw[bZ,Bf (λe=>by subst e;rw[ho] at hq;cases hq),qJ,Bf (λhm=>ha q hm hq)]⟩
   rw[<-DX] at ER DI;rw[DX];rw[<-DX];refine H.jl ho hB (by rw[bZ,Br rfl];exact ER [] 0 (λa ha=>by cases ha) (Dr _)) (λq hq=>?_) λq N' hq HG=>?_
   ·rw[bZ,Bf (Dc hq),qJ]
    split
    ·exact .inr rfl
    ·exact .inl rfl
   ·have hs:=H.sep o q b N N' (Dc hq) ho HG
    rw[DA] at hs
    have hd:((wT B4 h).put .dead (.row n (dK vs off t) [] 0 T ex) o).ob q=.dead:=by
     rw[bZ,Bf (Dc hq),qJ];rcases hs with hs|⟨n',t',hs,It,I2⟩
     ·rw[hs];simp
     ·rw[Br It]
    rw[hd];exact⟨.dead _ _,Sh.dead _ _,rfl⟩
 ·cases e
def WG(P:Program)(w0:cL)(w:World)(J:ak)(tmps:Array Value)(ds:List Deferred)(o:Oper)(h:T O)(nx:Q)(v:V)(h':T O)(nx':Q):Prop :=
 ∃w' J' u,((execOp (ev tmps ds) o).run P w=.ok (.value u) w'\/((execOp (ev tmps ds) o).run P w=.ok .skip w'/\u=Go.undef))/\VR J' v u/\HR P w0 J' h' nx' w'/\ec nx.nat J h J' h'/\nx.nat<=nx'.nat
section
variable {dst:Option Nat}{ty:TypeId}{pos:String}{AK:Array Edge}{BE:Option (Nat×Bool)}{k:V->T O->Q->aa}
theorem aXQ(H:HR P w0 J h nx w){t:TypeId}{a x:Operand}{n:Nat}(hs:aU P t=some n)(hT:XR J tm tmps (Op.operands (.store t a x)).toList)(e:wK (.st n (aE P a) (aE P x)) tm h nx k=.ok r) :
  ∃v h' nx',k v h' nx'=.ok r/\WG P w0 w J tmps ds ⟨dst,.store t a x,ty,pos,AK,BE⟩ h nx v h' nx':=by
 simp only[wK] at e;obtain⟨c,e1,hc⟩:=bd (ds:=ds) (o:=⟨dst,.store t a x,ty,pos,AK,BE⟩) H hT (by simp[Op.operands]) e;obtain⟨o,off,ho,e2⟩:=bw e1;subst ho;obtain⟨d,e3,hd⟩:=bd (ds:=ds) (o:=⟨dst,.store t a x,ty,pos,AK,BE⟩) H hT (by simp[Op.operands]) e2;obtain⟨l,hl,e4⟩:=rV e3;rw[cK] at e4;obtain⟨hg,e5⟩:=bQ e4;obtain⟨b,N,hv,hb⟩:=hc.ns;obtain⟨g1,g2,g3⟩:=hd.cells hl;obtain⟨h',Vs,T,f1,f2,f3,f4,f5⟩:=wq H hb g1 g2 e5;refine⟨_,_,_,f1,_,J,_,.inr ⟨?_,rfl⟩,VR.undef,f4,f5,Ae _⟩
 have BD:(ev tmps ds x).cells.size=n:=by
  have:=g1.1
  rw[Aa hg] at this;simpa using this.symm
 have:=eW (P:=P) (t:=t) (o:=off) (v:=ev tmps ds x) (by rw[BD];exact hs) f2 g3 (by simpa using f3)
 simp[execOp,hv,Instr.storeAt,Instr.sureAddr,this]
theorem HR.vW(H:HR P w0 J h nx w){o:Q}{b N:Nat}{x x':O}{y:Obj}(ho:J o=some (b,N))(hx:h.ob o=x)(he:OO x=true)(hr:∀n t B4 CJ T ex,x≠.row n t B4 CJ T ex)(Hp:OO x'=true)(UG:∀n t B4 CJ T ex,x'≠.row n t B4 CJ T ex)
  (hB:w0.heap.size<=b) (hn:OR P J (w.putObj b y) w0.heap.size x' b N):HR P w0 J (h.put .dead x' o) nx (w.putObj b y)/\ec nx.nat J h J (h.put .dead x' o):=by
 refine⟨H.jl ho hB (by rw[bZ,Br rfl];exact hn) (λq hq=>.inl (by rw[bZ,Bf (Dc hq)])) λq N' hq HG=>?_,.of λq hq=>by rw[bZ,Bf (λe=>by subst e;rw[ho] at hq;cases hq)]⟩;have hs:=H.sep o q b N N' (Dc hq) ho HG;rw[hx] at hs
 have hd:h.ob q=.dead:=by
  cases x<;>first|exact hs|exact absurd rfl (hr _ _ _ _ _ _)|cases he
 rw[bZ,Bf (Dc hq),hd];exact⟨.dead _ _,Sh.dead _ _,rfl⟩
theorem yf(H:HR P w0 J h nx w){s:KK}{t:TypeId}{x z:V}{f:V->V}{ux:Value}(hk:KT P s t)(hx:VR J x ux) :
  ∀{es:List (V×V)}{AJ:List MapEntry}{i:Nat}{k:List (V×V)->Nat->V->aa},MR J es AJ->uM s h x f z es i k=.ok r ->
  (∃DL,k DL (i+es.length) z=.ok r/\DL=es++[(x,f z)]/\(Instr.findAsking t ux AJ i).run P w=.ok none w/\∀d r',P.underlying t=some d->Instr.findNow d ux AJ i=some r'->r'=none) \/
   ∃DL j c e',k DL (i+j) c=.ok r/\AJ[j]?=some e'/\VR J c e'.val/\DL=es.set j (x,f c)/\(Instr.findAsking t ux AJ i).run P w=.ok (some (i+j,e'.val)) w /\
    (∀d r',P.underlying t=some d->Instr.findNow d ux AJ i=some r'->r'=some (i+j,e'.val))/\Instr.sameBits 10000 e'.key ux=true
 |[],[],i,k,hm,e=>.inl ⟨_,e,rfl,by simp[Instr.findAsking],λd r' _ h=>by simp[Instr.findNow] at h;exact h.symm⟩
 |[],_::_,i,k,hm,e=>by have:=hm.len;simp at this
 |_::_,[],i,k,hm,e=>by have:=hm.len;simp at this
 |(y,v)::es,en::AJ,i,k,hm,e=>by
  simp only[uM] at e;obtain⟨b,e,s1,s2,s3⟩:=a1z H hk hx (hm.key 0 (y,v) en rfl rfl) e;have Ox:MR J es AJ:=⟨by have:=hm.len;simpa using this,λi p e h1 h2=>hm.key (i+1) p e (by simpa using h1) (by simpa using h2),λi p e h1 h2=>hm.val (i+1) p e (by simpa using h1) (by simpa using h2)⟩
  cases b with
  |true =>
   refine .inr ⟨_,0,v,en,e,rfl,hm.val 0 (y,v) en rfl rfl,rfl,by simp[Instr.findAsking,s1],λd r' hd h=>?_,s3 rfl⟩;simp only[Instr.findNow] at h
   split at h
   ·simpa using h.symm
   ·rename_i hs;have:=s2 d _ hd hs;cases this
   ·cases h
  |false =>
   simp only at e;rw[aF] at e
   have now:∀d r',P.underlying t=some d->Instr.findNow d ux (en::AJ) i=some r'->Instr.findNow d ux AJ (i+1)=some r':=λd r' hd h=>by
    simp only[Instr.findNow] at h
    split at h
    ·rename_i hs;have:=s2 d _ hd hs;cases this
    ·exact h
    ·cases h
   rcases yf H hk hx (i:=i+1) Ox e with⟨DL,f1,f2,f3,f4⟩|⟨DL,j,c,e',f1,f2,f3,f4,f5,f6,f7⟩
   ·refine .inl ⟨(y,v)::DL,?_,by rw[f2];rfl,by simp[Instr.findAsking,s1,f3],λd r' hd h=>f4 d r' hd (now d r' hd h)⟩
    rw[Ak,show i+(es.length+1)=i+1+es.length by omega];exact f1
   ·refine .inr ⟨(y,v)::DL,j+1,c,e',?_,by simpa using f2,f3,by rw[f4];rfl,?_,λd r' hd h=>?_,f7⟩
    ·rw[show i+(j+1)=i+1+j by omega];exact f1
    ·rw[show i+(j+1)=i+1+j by omega];simp[Instr.findAsking,s1,f5]
    ·rw[show i+(j+1)=i+1+j by omega];exact f6 d r' hd (now d r' hd h)
theorem a5C{a b:Value}(h:Instr.sameBits 10000 a b=true):(Instr.keyThatStays a b).run P w=.ok b w:=by simp[Instr.keyThatStays,h]
theorem MR.push{es:List (V×V)}{AJ:List MapEntry}{x z:V}{g:MapEntry}(h:MR J es AJ)(hx:VR J x g.key)(hz:VR J z g.val):MR J (es++[(x,z)]) (AJ++[g]):=by
 have hl:=h.len
 have both:∀(i:Nat) p e,(es++[(x,z)])[i]?=some p->(AJ++[g])[i]?=some e->VR J p.1 e.key/\VR J p.2 e.val:=λi p e hp he=>by
  rw[Cg] at hp he;by_cases hi:i<es.length
  ·rw[Br hi] at hp
   rw[Br (by omega)] at he;exact⟨h.key i p e hp he,h.val i p e hp he⟩
  ·rw[Bf hi] at hp
   rw[Bf (by omega)] at he;have h2:i-es.length<1:=by have:=(Ab.1 hp).1;simpa using this
   rw[show i-es.length=0 by omega] at hp;rw[show i-AJ.length=0 by omega] at he;simp at hp he;subst hp;subst he;exact⟨hx,hz⟩
 exact⟨by simp[hl],λi p e hp he=>(both i p e hp he).1,λi p e hp he=>(both i p e hp he).2⟩
theorem MR.set{es:List (V×V)}{AJ:List MapEntry}{p:V×V}{g:MapEntry}{j:Nat}(h:MR J es AJ)(hx:VR J p.1 g.key)(hz:VR J p.2 g.val):MR J (es.set j p) (AJ.set j g):=by
 refine⟨by simp[h.len],λi q e hq he=>?_,λi q e hq he=>?_⟩
 all_goals
  by_cases HS:j=i
  ·subst HS
   rw[List.getElem?_set_self' ] at *
   simp_all
   try grind
  ·rw[Dm HS] at *
   first|exact h.key i q e hq he|exact h.val i q e hq he
theorem oq.push{AJ:List MapEntry}{cl:Nat}(h:oq AJ cl)(a b:Value):oq (AJ++[⟨a,b,cl⟩]) (cl+1):=by
 refine⟨by simp[h.1],λi e he=>?_⟩;rw[Cg] at he
 split at he
 ·exact h.2 i e he
 ·have h2:i-AJ.length<1:=by have:=(Ab.1 he).1;simpa using this
  rw[show i-AJ.length=0 by omega] at he;simp at he;subst he
  have:=h.1
  simp only;omega
theorem oq.set{AJ:List MapEntry}{cl j:Nat}{e g:MapEntry}(h:oq AJ cl)(hj:AJ[j]?=some e)(hb:g.born=e.born):oq (AJ.set j g) cl:=by
 refine⟨by simpa using h.1,λi x hx=>?_⟩;by_cases HS:j=i
 ·subst HS
  have AL:=(Ab.1 hj).1;rw[Gm AL] at hx;simp at hx;subst hx;rw[hb];exact h.2 j e hj
 ·rw[Dm HS] at hx
  exact h.2 i x hx
end
end
section
open Go.AM (hV overwrite aX aP run_underlying run_sizeOf aS aU aW bC aQ bP cH bytes_beq mf qj eW b9)
variable {P:Program}{w0:cL}{w:World}{J:ak}{h:T O}{nx:Q}{tm:T V}{tmps:Array Value}{ds:List Deferred}{r v:V}
section
variable {dst:Option Nat}{ty:TypeId}{pos:String}{AK:Array Edge}{BE:Option (Nat×Bool)}{k:V->T O->Q->aa}
theorem a2Q(AJ:List MapEntry)(i:Nat):(⟨AJ⟩:Array MapEntry)[i]?=AJ[i]?:=by simp
theorem aB8(AJ:List MapEntry)(e:MapEntry):(⟨AJ⟩:Array MapEntry).push e=⟨AJ++[e]⟩:=by apply Cr;simp
theorem a7o(AJ:List MapEntry)(j:Nat)(f:MapEntry->MapEntry)(e:MapEntry)(he:AJ[j]?=some e):(⟨AJ⟩:Array MapEntry).modify j f=⟨AJ.set j (f e)⟩:=by
 apply Cr;apply Fl;intro i;have AL:=(Ab.1 he).1;rw[Cp,Gu,a2Q];show _=(AJ.set j (f e))[i]?;by_cases HS:j=i
 ·subst HS
  rw[Br rfl,he,Gm AL];rfl
 ·rw[Bf HS,Dm HS]
theorem HR.a65(H:HR P w0 J h nx w){o:Q}{b N:Nat}{es DL:List (V×V)}{E5:List MapEntry}{Nq:Nat}(ho:J o=some (b,N))(D8:h.ob o=.map es\/h.ob o=.mc es)(hB:w0.heap.size<=b)(hb:b<w.heap.size)(hm:MR J DL E5)
  (a4v:h.ob o=.map es->oq E5 Nq):HR P w0 J (h.put .dead (Qg (h.ob o) DL) o) nx (w.putObj b (.map ⟨E5⟩ Nq))/\ec nx.nat J h J (h.put .dead (Qg (h.ob o) DL) o):=by
 rcases D8 with D8|D8
 ·rw[D8]
  exact H.vW ho D8 rfl (λ_ _ _ _ _ _ e=>by cases e) rfl (λ_ _ _ _ _ _ e=>by cases e) hB (.map _ _ _ _ _ hB (World.putObj_heap_same hb) hm (a4v D8))
 ·rw[D8]
  exact H.vW ho D8 rfl (λ_ _ _ _ _ _ e=>by cases e) rfl (λ_ _ _ _ _ _ e=>by cases e) hB (.mc _ _ _ _ _ hB (World.putObj_heap_same hb) hm)
theorem HR.map'(H:HR P w0 J h nx w){o:Q}{b N:Nat}{es:List (V×V)}(ho:J o=some (b,N))(hm:h.ob o=.map es\/h.ob o=.mc es):∃(AJ:List MapEntry)(cl:Nat),w.heap[b]?=some (.map ⟨AJ⟩ cl)/\MR J es AJ/\w0.heap.size<=b/\(h.ob o=.map es->oq AJ cl):=by
 have:=H.obj o b N ho
 rcases hm with hm|hm
 ·rw[hm] at this
  cases this with|map _ AJ cl _ _ hb hw PM hc=>exact⟨AJ,cl,hw,PM,hb,λ_=>hc⟩
 ·rw[hm] at this
  cases this with|mc _ AJ cl _ _ hb hw PM=>exact⟨AJ,cl,hw,PM,hb,λe=>by rw[hm] at e;cases e⟩
theorem ZG(H:HR P w0 J h nx w){t el:TypeId}{s:KK}{m key x:Operand}{op:Op}(BI:op=.mapUpdate t m key x\/op=.insert t m key x)(ht:ud P t=some (s,el))(hT:XR J tm tmps op.operands.toList)(e:wK (.mu s (aE P m) (aE P key) (aE P x)) tm h nx k=.ok r) :
  ∃v h' nx',k v h' nx'=.ok r/\WG P w0 w J tmps ds ⟨dst,op,ty,pos,AK,BE⟩ h nx v h' nx':=by
 have np:op.operands=#[m,key,x]:=by rcases BI with rfl|rfl<;>rfl
 simp only[wK] at e;obtain⟨c,e1,hc⟩:=bd (ds:=ds) (o:=⟨dst,op,ty,pos,AK,BE⟩) H hT (by simp[np]) e;obtain⟨kv,e2,Rq⟩:=bd (ds:=ds) (o:=⟨dst,op,ty,pos,AK,BE⟩) H hT (by simp[np]) e1;obtain⟨xv,e3,LG⟩:=bd (ds:=ds) (o:=⟨dst,op,ty,pos,AK,BE⟩) H hT (by simp[np]) e2;obtain⟨e4,UR⟩:=a1y e3;cases c<;>simp only at e4<;>first|cases e4|skip
 rename_i o;rw[bW] at e4;obtain⟨es,D8,e5⟩:=uX e4;obtain⟨b,N,hm,hb⟩:=hc.vF;obtain⟨AJ,cl,g1,g2,g3,g4⟩:=H.map' hb D8;obtain⟨kt,hu,MB⟩:=a3W ht;obtain⟨d,hd⟩:=MB.desc;have AL:=(An.1 g1).1;have AN:=mf (P:=P) g1 (by simp);have fM:=λo'=>qj (P:=P) (o':=o') g1 (by simp)
 have HV:=run_checkKey (w:=w) MB Rq UR false 9998
 have fin:∀DL E5 Nq,k V.undef (h.put .dead (Qg (h.ob o) DL) o) nx=.ok r->MR J DL E5->(h.ob o=.map es->oq E5 Nq)->(Instr.mapUpdate t (ev tmps ds m) (ev tmps ds key) (ev tmps ds x)).run P w=.ok () (w.putObj b (.map ⟨E5⟩ Nq)) ->
   ∃v h' nx',k v h' nx'=.ok r/\WG P w0 w J tmps ds ⟨dst,op,ty,pos,AK,BE⟩ h nx v h' nx':=λDL E5 Nq hk PM U9 A9=>by
  obtain⟨f1,f2⟩:=H.a65 hb D8 g3 AL PM U9;refine⟨_,_,_,hk,_,J,_,.inr ⟨?_,rfl⟩,VR.undef,f1,f2,Ae _⟩;rcases BI with rfl|rfl
  ·simp[execOp,A9]
  ·simp[execOp,A9]
 rcases yf (i:=0) H MB Rq g2 e5 with⟨DL,f1,f2,f3,f4⟩|⟨DL,j,c',e',f1,f2,f3,f4,f5,f6,f7⟩
 ·rw[c8] at f1
  have PY:=run_findKey hd f3 f4;subst f2;refine fin _ (AJ++[⟨ev tmps ds key,ev tmps ds x,cl⟩]) (cl+1) f1 (g2.push Rq LG) (λh1=>(g4 h1).push _ _) ?_;rw[hm];simp only[Instr.mapUpdate,Sem.run_bind,run_underlying hu,Result.andThen_ok,AN,HV,PY,fM,aB8]
 ·rw[c8] at f1
  have PY:=run_findKey hd f5 f6;subst f4;refine fin _ (AJ.set j { e' with key:=ev tmps ds key,val:=ev tmps ds x }) cl f1 (g2.set Rq LG) (λh1=>(g4 h1).set f2 rfl) ?_;rw[hm]
  have I3:(((⟨AJ⟩:Array MapEntry)[0+j]?).map (·.key)).getD (ev tmps ds key)=e'.key:=by
   rw[Bs,a2Q,f2];rfl
  have A8:(Instr.keyThatStays ((((⟨AJ⟩:Array MapEntry)[0+j]?).map (·.key)).getD (ev tmps ds key)) (ev tmps ds key)).run P w=.ok (ev tmps ds key) w:=by
   rw[I3];exact a5C f7
  simp only[Instr.mapUpdate,Sem.run_bind,run_underlying hu,Result.andThen_ok,AN,HV,PY,A8,fM];rw[Bs,a7o _ _ _ _ f2]
end
end
section
open Go.AM (hV overwrite aX aP run_underlying run_sizeOf run_typeInfo aS aU aW bC aQ cH bytes_beq b9 dL cell_of_heap jX)
variable {P:Program}{w0:cL}{w:World}{J:ak}{h:T O}{nx:Q}{tm:T V}{tmps:Array Value}{ds:List Deferred}{r v:V}
def pA(s:List UInt8):List Value:=s.map λb=>.int .u8 b.toNat
theorem sf:∀{l n:Nat}{s:List UInt8}{k:List V->aa},s.length=l->cC s=n->MO l n k=.ok r->∃cs,k cs=.ok r/\a_ J cs (pA s)/\∀c∈cs,ci c=true
 |0,n,[],k,hl,hp,e=>⟨[],e,.nil,by simp⟩
 |0,n,_::_,k,hl,hp,e=>by simp at hl
 |l+1,n,[],k,hl,hp,e=>by simp at hl
 |l+1,n,b::s,k,hl,hp,e=>by
  simp only[MO,aF] at e;have hb:b.toNat < 256:=b.toNat_lt;simp only[cC] at hp;have h1:n%256=b.toNat:=by omega
  have h2:n/256=cC s:=by omega
  rw[h1,h2] at e;obtain⟨cs,g1,g2,g3⟩:=sf (s:=s) (by simpa using hl) rfl e
  exact⟨_,g1,.cons (.int _ _) g2,λc hc=>by
   rcases As.1 hc with rfl|hc
   ·rfl
   ·exact g3 c hc⟩
theorem rU(H:HR P w0 J h nx w){sz:Nat}{v:V}{u:Value}{k:Nat->List V->aa}(hv:VR J v u)(e:jK sz v h k=.ok r) :
  ∃n cs us,k n cs=.ok r/\us.length=n*sz/\a_ J cs us/\(∀c∈cs,ci c=true)/\(Builtin.lenOf u).run P w=.ok n w/\(∀w1:World,w1.heap=w.heap->(Builtin.firstCells sz n u).run P w1=.ok ⟨us⟩ w1)/\((∃s,u=.string s)\/∃a cap,u=.slice a n cap):=by
 have sl:∀{o:Q}{off len cap b N:Nat},J o=some (b,N)->u=.slice (some ⟨b,off,none⟩) len cap->(match len with|0=>k 0 []|len=>mW h o off (len*sz) λl=>k len l)=.ok r ->
   ∃n cs us,k n cs=.ok r/\us.length=n*sz/\a_ J cs us/\(∀c∈cs,ci c=true)/\(Builtin.lenOf u).run P w=.ok n w/\(∀w1:World,w1.heap=w.heap->(Builtin.firstCells sz n u).run P w1=.ok ⟨us⟩ w1)/\((∃s,u=.string s)\/∃a cap,u=.slice a n cap):=λ{o off len cap b N} hb hu e=>by
  subst hu
  split at e
  ·exact⟨0,[],[],e,by simp,.nil,by simp,by simp[Builtin.lenOf],λw1 _=>by simp[Builtin.firstCells,loadCells,loadCellsFrom],.inr ⟨_,_,rfl⟩⟩
  ·obtain⟨n,t,h1,h2,e1⟩:=ek e
   obtain⟨us,g1,g2,g3,g4⟩:=H.cells hb h1 h2;exact⟨_,_,us,e1,g1,g3,g4,by simp[Builtin.lenOf],λw1 HD=>dL g1 λp x hx=>(AM.m8 (by rw[HD]) _).trans (g2 p x hx),.inr ⟨_,_,rfl⟩⟩
 cases hv with
 |jk=>exact⟨0,[],[],e,by simp,.nil,by simp,by simp[Builtin.lenOf],λw1 _=>by simp[Builtin.firstCells],.inr ⟨_,_,rfl⟩⟩
 |sl o off len cap b N hb hc=>exact sl hb rfl e
 |su o off len G1 b N cap hb hc hr=>exact sl hb rfl e
 |se a cap=>exact⟨0,[],[],e,by simp,.nil,by simp,by simp[Builtin.lenOf],λw1 _=>by simp[Builtin.firstCells,loadCells,loadCellsFrom],.inr ⟨_,_,rfl⟩⟩
 |og o off len b B cap hb hc =>
  have e:(eo h o off (len*sz) λl=>k len l)=.ok r:=e;obtain⟨n,t,h1,h2,e1⟩:=a3z e;obtain⟨us,g1,g2,g3,g4⟩:=H.a2m hb h1 h2;exact⟨_,_,us,e1,g1,g3,g4,by simp[Builtin.lenOf],λw1 HD=>dL (o:=B+off) g1 λp x hx=>by rw[De];exact(AM.m8 (by rw[HD]) _).trans (g2 p x hx),.inr ⟨_,_,rfl⟩⟩
 |re a cap =>
  have e:k 0 []=.ok r:=e;exact⟨0,[],[],e,by simp,.nil,by simp,by simp[Builtin.lenOf],λw1 _=>by cases a<;>simp[Builtin.firstCells,loadCells,loadCellsFrom],.inr ⟨_,_,rfl⟩⟩
 |rz a =>
  have e:k 0 []=.ok r:=e;exact⟨0,[],[],e,by simp,.nil,by simp,by simp[Builtin.lenOf],λw1 _=>by cases a<;>simp[Builtin.firstCells,loadCells,loadCellsFrom],.inr ⟨_,_,rfl⟩⟩
 |uC _ _=>cases(show(.bad 62:aa)=.ok r from e)
 |tK _ _ _ _ _=>cases(show(.bad 62:aa)=.ok r from e)
 |str l n s hl hn =>
  simp only[jK] at e;obtain⟨hg,e1⟩:=bQ e;have hs:=Aa hg;subst hs;obtain⟨cs,g1,g2,g3⟩:=sf (J:=J) hl hn e1;refine⟨l,cs,pA s,g1,by simp[pA,hl],g2,g3,?_,λw1 _=>?_,.inl ⟨_,rfl⟩⟩
  ·have:(⟨⟨s⟩⟩:ByteArray).size=l:=hl
   simp[Builtin.lenOf,this]
  ·have hex:(⟨⟨s⟩⟩:ByteArray).extract 0 l=⟨⟨s⟩⟩:=by
    have:=ByteArray.extract_mk s 0 l
    rw[show(⟨⟨s⟩⟩:ByteArray)=ByteArray.mk s.toArray from rfl,this];simp[<-hl]
   simp only[Builtin.firstCells,hex]
   have:(⟨s⟩:Array UInt8).map (λb=>Value.int .u8 b.toNat)=⟨pA s⟩:=by apply Cr;simp[pA]
   rw[this];rfl
 |_=>cases e
section model
variable {ts:Array TypeId}{ty t1 t2 e:TypeId}{size AU BV n:Nat}{x:Value}{us:List Value}
theorem lC{base:Option Addr}{w':World}(h1:ts[0]?=some t1)(h2:ts[1]?=some t2)(FU:P.underlying t1=some (.slice e))(EN:∃d,P.underlying t2=some d/\∀k,d≠.int k)(BD:aU P e=some size)
  (hl:(Builtin.lenOf x).run P w=.ok n w) (hf:(Builtin.firstCells size n x).run P w=.ok ⟨us⟩ w) (DD:AU+n<=BV)
  (A8:match base with|some a=>(storeCells (a.add (AU*size)) us).run P w=.ok () w'|none=>w'=w) :
  (Builtin.append_ ts ty #[.slice base AU BV,x]).run P w=.ok (.slice base (AU+n) BV) w':=by
 obtain⟨d,EN,hd⟩:=EN;have h0:(#[.slice base AU BV,x]:Array Value)[0]?=some (.slice base AU BV):=rfl;have Uz:(#[.slice base AU BV,x]:Array Value)[1]?=some x:=rfl;simp only[Builtin.append_,Sem.run_bind,h1,h2,h0,Uz,run_underlying FU,run_underlying EN,run_sizeOf BD,Result.andThen_ok,Sem.run_pure];cases d<;>first|exact absurd rfl (hd _)|skip
 all_goals
  cases base with
  |none=>subst A8;simp[hl,hf,DD]
  |some a=>simp[hl,hf,DD,A8]
theorem a2x{base:Option Addr}{z:Value}{old:List Value}(h1:ts[0]?=some t1)(h2:ts[1]?=some t2)(FU:P.underlying t1=some (.slice e))(EN:∃d,P.underlying t2=some d/\∀k,d≠.int k)(BD:aU P e=some size)
  (hz:(P.info? e).bind (·.zero)=some z) (Ii:z.cells.size=size) (MG:bC P e<=16384) (Ht:0<bC P e) (EX:AU+n<=4294967296)
  (hl:(Builtin.lenOf x).run P w=.ok n w) (hf:∀w1:World,w1.heap=w.heap->(Builtin.firstCells size n x).run P w1=.ok ⟨us⟩ w1) (PX:∀w1:World,w1.heap=w.heap->(Builtin.firstCells size AU (.slice base AU BV)).run P w1=.ok ⟨old⟩ w1)
  (K5:old.length=AU*size) (Jq:us.length=n*size) (DD:¬AU+n<=BV) :
  ∃A6 rest,AU+n<=A6/\(old++us++rest).length=A6*size /\
   (Builtin.append_ ts ty #[.slice base AU BV,x]).run P w=.ok (.slice (some ⟨w.heap.size,0,none⟩) (AU+n) A6) (w.drew.alloc (.cells ⟨old++us++rest⟩ e)):=by
 obtain⟨d,EN,hd⟩:=EN;obtain⟨ti,HN,LF⟩:=dQ hz;have hbt:bC P e=ti.bytes:=by simp[bC,HN]
 have KE:=AM.nextslicecap_le (need:=AU+n) (c:=BV) (by omega)
 have J8:¬Builtin.nextslicecap (AU+n) BV*ti.bytes>2^48:=by
  have h1:Builtin.nextslicecap (AU+n) BV*ti.bytes<=(2*(AU+n)+512)*16384:=Ge KE (by rw[<-hbt];exact MG);omega
 have Hm:¬ti.bytes=0:=by rw[<-hbt];omega
 obtain⟨A6,wN,I5⟩:∃A6,AU+n<=A6/\(Question.appendCap (AU+n) BV e).cut (w.tape w.drawn (Question.appendCap (AU+n) BV e))=A6 :=
  ⟨_,by simp only[Question.cut];omega,rfl⟩
 obtain⟨w1,HD⟩:∃w1,w1=w.drew:=⟨_,rfl⟩
 have ra:w1.heap=w.heap:=by rw[HD];rfl
 have a5Q:(Question.appendCap (AU+n) BV e).forced=false:=rfl;refine⟨A6,(Builtin.zeroCells z.cells (A6-(AU+n))).toList,wN,?_,?_⟩
 ·have e1:A6*size=(AU+n)*size+(A6-(AU+n))*size:=by rw[<-Co];congr 1;omega
  simp only[Bc,K5,Jq,Array.length_toList,jX,Ii];rw[e1,Co]
 ·have h0:(#[.slice base AU BV,x]:Array Value)[0]?=some (.slice base AU BV):=rfl
  have Uz:(#[.slice base AU BV,x]:Array Value)[1]?=some x:=rfl;simp only[Builtin.append_,Sem.run_bind,h1,h2,h0,Uz,run_underlying FU,run_underlying EN,run_sizeOf BD,Result.andThen_ok,Sem.run_pure];cases d<;>first|exact absurd rfl (hd _)|skip
  all_goals
   simp[hl,DD,run_typeInfo HN,Hm,J8,a5Q,I5,<-HD,PX w1 ra,hf w1 ra,aS hz,newRow,ra];congr 2;apply Cr;simp
end model
end
section
open Go.AM (hV overwrite aX aP run_underlying run_sizeOf aS aU aW bC aQ cH bytes_beq b9 cell_of_heap)
variable {P:Program}{w0:cL}{w:World}{J:ak}{h:T O}{nx:Q}{tm:T V}{tmps:Array Value}{ds:List Deferred}{r v:V}
theorem HR.make(H:HR P w0 J h nx w){x:Obj}{N:Nat}{ob:O}(ho:OR P (J.set nx w.heap.size N) (w.alloc x) w0.heap.size ob w.heap.size N) :
  HR P w0 (J.set nx w.heap.size N) (h.put .dead ob nx) nx.succ (w.alloc x)/\ec nx.nat J h (J.set nx w.heap.size N) (h.put .dead ob nx):=by
 have hq:=H.fresh nx (Ae _);have H1:=H.pend hq ob (nx':=nx.succ) (by rw[Q.kl];omega) (by rw[Q.kl];omega);refine⟨H1.born hq (by rw[Q.kl];omega) (by rw[bZ,Br rfl];exact ho),ak.mz hq,λq AL hn=>?_⟩;have BA:q≠nx:=λe=>by subst e;omega
 exact⟨by simp[ak.set,BA,hn],by rw[bZ,Bf (Dc BA)]⟩
theorem HR.share(H:HR P w0 J h nx w){b N:Nat}{ob:O}(hb:b<w.heap.size)(ho:OR P (J.set nx b N) w w0.heap.size ob b N)(hs:∀q N',J q=some (b,N')->Sh ob (h.ob q) q/\OO (h.ob q)=false) :
  HR P w0 (J.set nx b N) (h.put .dead ob nx) nx.succ w/\ec nx.nat J h (J.set nx b N) (h.put .dead ob nx):=by
 have hq:=H.fresh nx (Ae _);have hle:=ak.mz (b:=b) (N:=N) hq
 have FV:∀q b' N',J.set nx b N q=some (b',N')->(q=nx/\b'=b/\N'=N)\/(q≠nx/\J q=some (b',N')):=λq b' N' e=>by
  unfold ak.set at e
  split at e
  ·simp at e;exact .inl ⟨by assumption,e.1.symm,e.2.symm⟩
  ·exact .inr ⟨by assumption,e⟩
 refine⟨⟨H.size,H.old,H.os,H.tape,H.output,λg hg=>?_,λq hn=>?_,λq b' N' e=>?_,λq b' N' e=>?_,λq q' b' N1 N2 BA e1 e2=>?_,λq hn=>?_,ak.le_trans H.base hle⟩,hle,λq AL hn=>?_⟩
 ·obtain⟨N',e⟩:=H.jt g hg;exact⟨N',hle _ _ e⟩
 ·rw[Q.kl] at hn
  unfold ak.set;rw[Bf (λe=>by subst e;omega)];exact H.fresh q (by omega)
 ·rcases FV q b' N' e with⟨_,rfl,_⟩|⟨_,e⟩
  ·exact hb
  ·exact H.lt q b' N' e
 ·rcases FV q b' N' e with⟨rfl,rfl,rfl⟩|⟨BA,e⟩
  ·rw[bZ,Br rfl];exact ho
  ·rw[bZ,Bf (Dc BA)];exact(H.obj q b' N' e).mono hle rfl
 ·rcases FV q b' N1 e1 with⟨a1,a2,a3⟩|⟨h1,f1⟩
  ·rcases FV q' b' N2 e2 with⟨a4,_,_⟩|⟨h2,f2⟩
   ·exact absurd (a1.trans a4.symm) BA
   ·rw[a2] at f2
    rw[a1,bZ,Br rfl,bZ,Bf (Dc h2)];exact(hs q' N2 f2).1
  ·rcases FV q' b' N2 e2 with⟨a4,a5,a6⟩|⟨h2,f2⟩
   ·rw[a5] at f1
    rw[a4,bZ,Bf (Dc h1),bZ,Br rfl];exact Sh.a1W (hs q N1 f1).2
   ·rw[bZ,Bf (Dc h1),bZ,Bf (Dc h2)];exact H.sep q q' b' N1 N2 BA f1 f2
 ·rw[Q.kl] at hn
  rw[bZ,Bf (λe=>by subst e;omega)];exact H.dead q (by omega)
 ·have BA:q≠nx:=λe=>by subst e;omega
  exact⟨by simp[ak.set,BA,hn],by rw[bZ,Bf (Dc BA)]⟩
theorem a6H{b:Nat}{x:Obj}(h:w.heap[b]?=some x):w.putObj b x=w:=by
 unfold World.putObj;have hb:=An.1 h
 have:w.heap.setIfInBounds b x=w.heap:=by
  apply Fi;intro j;by_cases hj:b=j
  ·subst hj;obtain⟨GG,MI⟩:=hb;simp[GG,MI]
  ·simp[Bn hj]
 rw[this]
theorem HR.a2w(H:HR P w0 J h nx w){o:Q}{b N n CJ ty:Nat}{t:T V}{B4:List Q}{ex:Bool}(ho:J o=some (b,N))(hr:h.ob o=.row n t B4 CJ ty ex){Vs us:List Value}{T:TypeId}{fz:Nat×Nat}(hw:w.heap[b]?=some (.cells ⟨Vs⟩ T (0,0)))(hu:n+us.length<=Vs.length\/us=[]) :
  HR P w0 J (h.put .dead (.ro n t) o) nx (w.putObj b (.cells ⟨overwrite Vs n us⟩ T fz))/\ec nx.nat J h J (h.put .dead (.ro n t) o)/\∀q N',J q=some (b,N')->(h.put .dead (.ro n t) o).ob q=.dead\/q=o\/∃n' t',(h.put .dead (.ro n t) o).ob q=.ro n' t'/\q∈B4/\n'<=CJ:=by
 have hO:=H.obj o b N ho;rw[hr] at hO;cases hO with
 |row _ _ _ _ _ _ _ _ vs hB DX hN hn hf he ha hx hk =>
 rw[hw] at DX;simp at DX;obtain⟨rfl,rfl⟩:=DX;have Hv:=(An.1 hw).1;have ER:(w.putObj b (.cells ⟨overwrite Vs n us⟩ T fz)).heap[b]?=some (.cells ⟨overwrite Vs n us⟩ T fz):=World.putObj_heap_same Hv
 have hlen:(overwrite Vs n us).length=Vs.length:=by
  rcases hu with hu|rfl
  ·exact aP _ _ _ hu
  ·simp[overwrite]
 have AN:∀i u,i<n->(overwrite Vs n us)[i]?=some u->Vs[i]?=some u:=λi u hi Hh=>by
  rcases hu with hu|rfl
  ·rw[aX _ _ _ _ hu,Br hi] at Hh;exact Hh
  ·simpa[overwrite] using Hh
 have DI:∀q N' n' t',J q=some (b,N')->h.ob q=.ro n' t'->n'<=n->OR P J (w.putObj b (.cells ⟨overwrite Vs n us⟩ T fz)) w0.heap.size (.ro n' t') b N':=λq N' n' t' hq UH FZ=>by
  have:=H.obj q b N' hq
  rw[UH] at this;cases this with
  |ro _ _ _ _ XC T' fz' qg LL Hg DB =>
  rw[hw] at qg;simp at qg;obtain⟨rfl,rfl,_⟩:=qg;exact .ro _ _ _ _ _ _ _ ER (by rw[hlen];exact LL) (λi u hi Hh=>Hg i u hi (AN i u (by omega) Hh)) DB
 have Jw:∀q N',q≠o->J q=some (b,N')->h.ob q=.dead\/∃n' t',h.ob q=.ro n' t'/\q∈B4/\n'<=CJ:=λq N' BA hq=>by
  have hs:=H.sep o q b N N' (Dc BA) ho hq;rw[hr] at hs;exact hs
 refine⟨H.jl ho hB ?_ (λq hq=>.inl (by rw[bZ,Bf (Dc hq)])) λq N' hq HG=>?_,.of λq hq=>by rw[bZ,Bf (λe=>by subst e;rw[ho] at hq;cases hq)],λq N' HG=>?_⟩
 ·rw[bZ,Br rfl]
  exact .ro _ _ _ _ _ _ _ ER (by rw[hlen,hN];exact hn) (λi u hi Hh=>hx i u hi (AN i u hi Hh)) hk
 ·rw[bZ,Bf (Dc hq),bZ,Br rfl]
  rcases Jw q N' hq HG with h1|⟨n',t',h1,h2,h3⟩
  ·rw[h1];exact⟨.dead _ _,Sh.dead _ _,rfl⟩
  ·rw[h1];exact⟨DI q N' n' t' HG h1 (by omega),trivial,rfl⟩
 ·by_cases hq:q=o
  ·exact .inr (.inl hq)
  ·rw[bZ,Bf (Dc hq)]
   rcases Jw q N' hq HG with h1|h1
   ·exact .inl h1
   ·exact .inr (.inr h1)
section app
variable {ts:Array TypeId}{ty t1 t2 e:TypeId}{sz:Nat}{k:V->T O->Q->aa}
def Sl(P:Program)(w0:cL)(w:World)(J:ak)(h:T O)(nx:Q)(run:Result Value)(k:V->T O->Q->aa)(r:V):Prop :=
 ∃v h' nx' w' J' u,k v h' nx'=.ok r/\run=.ok u w'/\VR J' v u/\HR P w0 J' h' nx' w'/\ec nx.nat J h J' h'/\nx.nat<=nx'.nat
theorem aDt(H:HR P w0 J h nx w){len m A6:Nat}{old new:List V}{oldU us rest:List Value}{run:Result Value}(ho:a_ J old oldU)(hn:a_ J new us)(K5:oldU.length=len*sz)(Jq:us.length=m*sz)(EE:∀c∈old,ci c=true)(Mh:∀c∈new,ci c=true)
  (JL:len+m<=A6) (hlen:(oldU++us++rest).length=A6*sz) (A9:run=.ok (.slice (some ⟨w.heap.size,0,none⟩) (len+m) A6) (w.drew.alloc (.cells ⟨oldU++us++rest⟩ e))) (hk:mC e sz len m old new h nx k=.ok r) :
  Sl P w0 w J h nx run k r:=by
 unfold mC at hk;obtain⟨_,hk⟩:=bQ hk;rw[dB,dB,aF,aF,c8,dC] at hk;have q_:old.length=len*sz:=by rw[ho.1,K5]
 have J7:new.length=m*sz:=by rw[hn.1,Jq]
 have a5Y:dK new (len*sz) (dK old 0 .nil)=dK (old++new) 0 .nil:=by rw[a19,Bs,q_]
 rw[a5Y] at hk;have Hd:HR P w0 J h nx w.drew:=H.drawn _;have hq:=H.fresh nx (Ae _);have hle:=ak.mz (b:=w.heap.size) (N:=A6*sz) hq;have CA:=(ho.append hn).mono hle;have P4:=TL.puts (old++new) .nil;have BD:(old++new).length=(len+m)*sz:=by rw[Bc,q_,J7,Co]
 have CY:∀c∈old++new,ci c=true:=λc hc=>by
  rcases Bk.1 hc with h1|h1
  ·exact EE c h1
  ·exact Mh c h1
 obtain⟨f1,f2⟩:=Hd.make (x:=.cells ⟨oldU++us++rest⟩ e) (N:=A6*sz) (ob:=.row ((len+m)*sz) (dK (old++new) 0 .nil) [] 0 e false) (by
  refine .row _ _ _ _ _ _ _ _ _ H.size (AM.heap_alloc_new (w:=w.drew) _) hlen (Cs _ JL) (Dr _) (λh=>by cases h) (λa ha=>by cases ha) (λi u hi hu=>?_) λi hi=>?_
  ·have D7:i<(old++new).length:=by rw[BD];exact hi
   rw[P4 i (old++new)[i] (by simp[D7])];refine CA.2 i _ u (by simp[D7]) ?_;rw[Az (by rw[<-CA.1];exact D7)] at hu;exact hu
  ·have D7:i<(old++new).length:=by rw[BD];exact hi
   rw[P4 i (old++new)[i] (by simp[D7])];exact CY _ (Ea D7))
 exact⟨_,_,_,_,_,_,hk,A9,.su _ _ _ _ _ _ _ ak.nh JL (by rw[Bs]),f1,f2,by rw[Q.kl];omega⟩
theorem aLp(H:HR P w0 J h nx w)(h1:ts[0]?=some t1)(h2:ts[1]?=some t2)(FU:P.underlying t1=some (.slice e))(EN:∃d,P.underlying t2=some d/\∀k,d≠.int k)(BD:aU P e=some sz)(CR:0<sz)
  {z:Value} (hz:(P.info? e).bind (·.zero)=some z) (Ii:z.cells.size=sz) (MG:bC P e<=16384) (Ht:0<bC P e) {a:V} {ua x:Value} (ha:VR J a ua) {m:Nat} {new:List V} {us:List Value} (hn:a_ J new us) (Jq:us.length=m*sz) (Mh:∀c∈new,ci c=true)
  (hl:(Builtin.lenOf x).run P w=.ok m w) (hf:∀w1:World,w1.heap=w.heap->(Builtin.firstCells sz m x).run P w1=.ok ⟨us⟩ w1) (hk:Ki e sz a m new h nx k=.ok r) :
  Sl P w0 w J h nx ((Builtin.append_ ts ty #[ua,x]).run P w) k r:=by
 have Me:=hn.hV Mh;have h0:m=0->us=[]:=λe=>by subst e;simpa using Jq
 have IV:∀{len:Nat}{base:Option Addr}{cap:Nat}{old:List V}{oldU:List Value},a_ J old oldU->oldU.length=len*sz->(∀c∈old,ci c=true)->(∀w1:World,w1.heap=w.heap->(Builtin.firstCells sz len (.slice base len cap)).run P w1=.ok ⟨oldU⟩ w1)->¬len+m<=cap ->
   mC e sz len m old new h nx k=.ok r->Sl P w0 w J h nx ((Builtin.append_ ts ty #[.slice base len cap,x]).run P w) k r:=λ{len base cap old oldU} ho K5 EE PX DD hg=>by
  have EX:len+m<=4294967296:=by
   unfold mC at hg;exact Ad (bQ hg).1
  obtain⟨A6,rest,g1,g2,g3⟩:=a2x (ty:=ty) h1 h2 FU EN BD hz Ii MG Ht EX hl hf PX K5 Jq DD;exact aDt H ho hn K5 Jq EE Mh g1 g2 g3 hg
 have EH:∀{len cap:Nat}{base:Option Addr}{v:V},m=0->len<=cap->VR J v (.slice base len cap)->k v h nx=.ok r->Sl P w0 w J h nx ((Builtin.append_ ts ty #[.slice base len cap,x]).run P w) k r:=λ{len cap base v} hm hc hv YK=>by
  have Ow:=h0 hm;subst hm;refine⟨_,_,_,w,J,_,YK,lC (ty:=ty) h1 h2 FU EN BD hl (hf w rfl) (by omega) ?_,hv,H,ec.refl _ _ _,Ae _⟩;cases base with
  |none=>rfl
  |some a=>simp[Ow,storeCells]
 cases ha with
 |jk =>
  simp only[Ki] at hk
  split at hk
  ·exact EH rfl (Ae _) .jk hk
  ·rename_i hm
   exact IV (old:=[]) (oldU:=[]) .nil (by simp) (by simp) (λw1 _=>by simp[Builtin.firstCells]) (λhle=>hm (by omega)) hk
 |sl o off len cap b N hb hc =>
  simp only[Ki] at hk
  split at hk
  ·rename_i hle
   have hle:=Ad hle
   split at hk
   ·exact EH rfl hc (.sl _ _ _ _ _ _ hb hc) hk
   ·obtain⟨h',Vs,T,f1,f2,f3,f4,f5⟩:=wq H hb hn Mh hk
    rw[aF] at f1;have A8:=b9 (P:=P) (T:=T) us (off+len*sz) 0 w Vs f2 Me (by simpa using f3);rw[Ax] at A8;exact⟨_,_,_,_,J,_,f1,lC (ty:=ty) h1 h2 FU EN BD hl (hf w rfl) hle (by simp only[cH];exact A8),.sl _ _ _ _ _ _ hb hle,f4,f5,Ae _⟩
  ·rename_i hle
   have hle:¬len+m<=cap:=λh=>by rw[Ah h] at hle;cases hle
   obtain⟨n',cs,oldU,g1,g2,g3,g4,g5,g6,g7⟩:=rU H (.sl o off len cap b N hb hc) hk;have I2:n'=len:=by simpa[Builtin.lenOf] using g5.symm
   subst I2;exact IV g3 g2 g4 g6 hle g1
 |su o off len G1 b N cap hb hc hr =>
  simp only[Ki] at hk;obtain⟨hg,hk⟩:=bQ hk;have Io:=Aa hg
  split at hk
  ·refine EH rfl hc ?_ hk
   rw[Io];exact .su _ _ _ _ _ _ _ hb hc hr
  ·rw[bW] at hk
   rw[<-Io] at hr
   split at hk
   ·rename_i n t B4 CJ HY ex DA
    have hO:=H.obj o b N hb;rw[DA] at hO;cases hO with
    |row _ _ _ _ _ _ _ _ Vs hB hw hN hnN N9 he ha hx I3 =>
    split at hk
    ·rename_i hle
     have hle:=Ad hle
     have DD:len+m<=cap:=by
      have:(len+m)*sz<=cap*sz:=by omega
      exact Nat.le_of_mul_le_mul_right this CR
     obtain⟨h',XC,T,f1,f2,f3,f4,f5⟩:=wq H hb hn Mh hk;rw[aF] at f1;have A8:=b9 (P:=P) (T:=T) us (off+len*sz) 0 w XC f2 Me (by simpa using f3);rw[Ax] at A8;exact⟨_,_,_,_,J,_,f1,lC (ty:=ty) h1 h2 FU EN BD hl (hf w rfl) DD (by simp only[cH];exact A8),.su _ _ _ _ _ _ _ hb DD hr,f4,f5,Ae _⟩
    ·obtain⟨EF,hk⟩:=bQ hk
     simp only[Ac] at EF;obtain⟨⟨⟨q1,q2⟩,q3⟩,q4⟩:=EF;have q1:=Aa q1;have q2:=Aa q2;have q3:=Aa q3;have q4:=Ad q4;subst q2;rw[Bs] at q1 hr;rw[dB,aF,aF,c8,c8,dC] at hk;have hq:=H.fresh nx (Ae _);have FZ:o≠nx:=λe=>by subst e;rw[hb] at hq;cases hq
     have J8:new.length=m*sz:=by rw[hn.1,Jq]
     have row:∀{J':ak}{w':World}{b' N':Nat}{L:List Value},J.le J'->w0.heap.size<=b'->w'.heap[b']?=some (.cells ⟨L⟩ HY (0,0))->L.length=N'->n+m*sz<=N'->(∀i u,i<n->L[i]?=some u->VR J (t.at i) u)->(∀i,i<m*sz->L[n+i]?=us[i]?) ->
       OR P J' w' w0.heap.size (.row (n+m*sz) (dK new n t) (o::B4) n HY false) b' N':=λ{J' w' b' N' L} hle hB' DX hL hN' hold ER=>by
      refine .row _ _ _ _ _ _ _ _ L hB' DX hL hN' (by omega) (λh=>by cases h) (λa Kb=>?_) (λi u hi hu=>?_) λi hi=>?_
      ·rcases As.1 Kb with rfl|Kb
       ·rw[hle _ _ hb];simp
       ·cases e:J a with
        |none=>exact absurd e (ha a Kb)
        |some y=>rw[hle a y e];simp
      ·rw[iE]
       by_cases HI:i<n
       ·rw[Bf (by omega)];exact(hold i u HI hu).mono hle
       ·have hj:i-n<m*sz:=by omega
        rw[Br ⟨by omega,by omega⟩];rw[show i=n+(i-n) by omega,ER _ hj] at hu;refine(hn.2 (i-n) _ u ?_ hu).mono hle;simp[Bw,J8,hj]
      ·rw[iE]
       split
       ·refine Mh _ ?_
        have hj:i-n<new.length:=by omega
        simp[Bw,hj]
       ·exact I3 i (by omega)
     by_cases DD:len+m<=cap
     ·have hmul:(len+m)*sz<=cap*sz:=Cs _ DD
      have a0R:(len+m)*sz=len*sz+m*sz:=Co _ _ _;have F0:n+us.length<=Vs.length:=by rw[Jq,hN];omega
      obtain⟨f1,f2,f3⟩:=H.a2w (fz:=(0,0)) hb DA hw (.inl F0);have A8:=b9 (P:=P) (T:=HY) us (len*sz) 0 w Vs hw Me (by rw[Jq,hN];omega);rw[Ax,q1] at A8;have Hv:=(An.1 hw).1;have hlw:(overwrite Vs n us).length=N:=by rw[aP _ _ _ F0];exact hN
      obtain⟨s1,s2⟩:=f1.share (b:=b) (N:=N) (ob:=.row (n+m*sz) (dK new n t) (o::B4) n HY false) (by simpa using Hv)
       (row (ak.mz hq) hB (World.putObj_heap_same Hv) hlw (by omega) (λi u hi hu=>by
        rw[aX _ _ _ _ F0,Br hi] at hu;exact hx i u hi hu) (λi hi=>by
        rw[aX _ _ _ _ F0,Bf (by omega),Br (by omega)];congr 1;omega))
       (λq N' HG=>by
        rcases f3 q N' HG with h3|rfl|⟨n',t',h3,h4,h5⟩
        ·rw[h3];exact⟨Sh.dead _ _,rfl⟩
        ·rw[bZ,Br rfl];exact⟨.inr ⟨n,t,rfl,by simp,Ae _⟩,rfl⟩
        ·rw[h3];exact⟨.inr ⟨n',t',rfl,by simp[h4],by omega⟩,rfl⟩)
      refine⟨_,_,_,_,_,_,hk,lC (ty:=ty) h1 h2 FU EN BD hl (hf w rfl) DD (by simp only[cH,Bs,q1];exact A8),.su _ _ _ _ _ _ _ ak.nh DD (by omega),s1,f2.trans s2,by rw[Q.kl];omega⟩
     ·obtain⟨n',cs,oldU,g1,g2,g3,g4,g5,g6,g7⟩:=rU (k:=λ_ l=>.ok (.agg l)) H (sz:=sz) (.su o 0 len sz b N cap hb hc (by omega)) (r:=.agg (jN (len*sz) 0 t)) (by
       simp only[jK];cases len with
       |zero=>simp[jN]
       |succ len =>
        simp only[mW,bW,DA,fq,mT];rw[show Nat.ble (0+(len+1)*sz) n=true from Ah (by omega)];rfl)
      have CU:cs=jN (len*sz) 0 t:=by simpa using g1
      have I2:n'=len:=by simpa[Builtin.lenOf] using g5.symm
      subst I2;subst CU;obtain⟨A6,rest,c1,c2,c3⟩:=a2x (ty:=ty) h1 h2 FU EN BD hz Ii MG Ht q4 hl hf g6 g2 Jq DD;have Hd:HR P w0 J h nx w.drew:=H.drawn _;obtain⟨f1,f2,f3⟩:=Hd.a2w (us:=[]) (fz:=(0,0)) hb DA (show w.drew.heap[b]?=_ from hw) (.inr rfl);have Rk:overwrite Vs n []=Vs:=by simp[overwrite]
      rw[Rk,a6H (w:=w.drew) (show w.drew.heap[b]?=_ from hw)] at f1;have Rn:A6*sz=A6*sz:=rfl;have Iu:(n'+m)*sz<=A6*sz:=Cs _ c1;have a0R:(n'+m)*sz=n'*sz+m*sz:=Co _ _ _
      obtain⟨s1,s2⟩:=f1.make (x:=.cells ⟨oldU++us++rest⟩ e) (N:=A6*sz) (ob:=.row (n+m*sz) (dK new n t) (o::B4) n HY false)
       (row (ak.mz hq) H.size (by rw[<-q3];exact AM.heap_alloc_new (w:=w.drew) _) c2 (by omega) (λi u hi hu=>by
        rw[Aj,Az (by omega)] at hu;exact g3.2 i _ u (by rw[kW (by omega),Bs]) hu) (λi hi=>by
        rw[Aj,Bm (by omega),Az (by omega)];congr 1;omega))
      exact⟨_,_,_,_,_,_,hk,c3,.su _ _ _ _ _ _ _ ak.nh c1 (by omega),s1,f2.trans s2,by rw[Q.kl];omega⟩
   ·cases hk
 |rz a =>
  have hk:(match m with
   |0=>k (.rr .z) h nx
   |m=>mC e sz 0 m [] new h nx k)=.ok r:=hk
  split at hk
  ·exact EH rfl (Ae _) (.rz _) hk
  ·rename_i hm
   exact IV (old:=[]) (oldU:=[]) .nil (by simp) (by simp) (λw1 _=>by cases a<;>simp[Builtin.firstCells,loadCells,loadCellsFrom]) (λhle=>hm (by omega)) hk
 |uC _ _=>cases(show(.bad 66:aa)=.ok r from hk)
 |tK _ _ _ _ _=>cases(show(.bad 66:aa)=.ok r from hk)
 |og _ _ _ _ _ _ _ _=>cases(show(.bad 66:aa)=.ok r from hk)
 |re _ _=>cases(show(.bad 66:aa)=.ok r from hk)
 |_=>cases hk
end app
end
section
open Go.AM (hV overwrite aX aP run_underlying run_sizeOf aS aU aW bC aQ cH bytes_beq b9 cell_of_heap)
variable {P:Program}{w0:cL}{w:World}{J:ak}{h:T O}{nx:Q}{tm:T V}{tmps:Array Value}{ds:List Deferred}{r v:V}
variable {dst:Option Nat}{ty:TypeId}{pos:String}{AK:Array Edge}{BE:Option (Nat×Bool)}{k:V->T O->Q->aa}
theorem aXO(H:HR P w0 J h nx w){x y:Operand}{t u e:TypeId}{sz:Nat}{z:List V}{a:Array Operand}{ts:Array TypeId}(ha:a.toList=[x,y])(KX:ts.toList=[t,u])(he:P.underlying t=some (.slice e))(hu:∃d,P.underlying u=some d/\∀k,d≠.int k)
  (hs:aU P e=some sz) (hz:o5 P e=some z) (CR:0<sz) (MG:bC P e<=16384) (Ht:0<bC P e) (hT:XR J tm tmps (Op.operands (.call ⟨.builtin .append,a,ts⟩)).toList) (e:wK (.ap e sz (aE P x) (aE P y)) tm h nx k=.ok r) :
  ∃v h' nx',k v h' nx'=.ok r/\WG P w0 w J tmps ds ⟨dst,.call ⟨.builtin .append,a,ts⟩,ty,pos,AK,BE⟩ h nx v h' nx':=by
 obtain⟨a⟩:=a;obtain⟨ts⟩:=ts;simp only at ha KX;subst ha;subst KX;simp only[wK] at e;obtain⟨c,e1,hc⟩:=bd (ds:=ds) (o:=⟨dst,.call ⟨.builtin .append,#[x,y],#[t,u]⟩,ty,pos,AK,BE⟩) H hT (by simp[Op.operands,Call.operands]) e;obtain⟨d,e2,hd⟩:=bd (ds:=ds) (o:=⟨dst,.call ⟨.builtin .append,#[x,y],#[t,u]⟩,ty,pos,AK,BE⟩) H hT (by simp[Op.operands,Call.operands]) e1;obtain⟨m,cs,us,e3,g1,g2,g3,g4,g5,_⟩:=rU H hd e2;obtain⟨_,e4⟩:=bQ e3;obtain⟨zv,a3E,z2,a3F,a8H,a8I⟩:=rL (J:=J) hz
 have Ii:zv.cells.size=sz:=by
  rw[hs] at z2
  have:=a3F.1
  simp at this z2;omega
 obtain⟨v,h',nx',w',J',a2B,f1,f2,f3,f4,f5,f6⟩:=aLp (ts:=#[t,u]) (ty:=ty) H (t1:=t) (t2:=u) rfl rfl he hu hs CR a3E Ii MG Ht hc g2 g1 g3 g4 g5 e4;refine⟨v,h',nx',f1,w',J',a2B,.inl ?_,f3,f4,f5,f6⟩;simp[execOp,resolve,invoke,builtin];simp[ev] at f2;simp[f2]
theorem aXP(H:HR P w0 J h nx w){s d e:TypeId}{x:Operand}(hs:P.underlying s=some .string)(hd:P.underlying d=some (.slice e))(he:P.underlying e=some (.int .u8))(hT:XR J tm tmps (Op.operands (.convert s d x)).toList)(e':wK (.sb (aE P x)) tm h nx k=.ok r) :
  ∃v h' nx',k v h' nx'=.ok r/\WG P w0 w J tmps ds ⟨dst,.convert s d x,ty,pos,AK,BE⟩ h nx v h' nx':=by
 simp only[wK] at e';obtain⟨c,e1,hc⟩:=bd (ds:=ds) (o:=⟨dst,.convert s d x,ty,pos,AK,BE⟩) H hT (by simp[Op.operands]) e';obtain⟨l,n,hn,e2⟩:=rR e1;subst hn;obtain⟨sl,hv,hl,hp⟩:=hc.l_;obtain⟨cs,e3,g2,g3⟩:=sf (J:=J) hl hp e2;rw[dB,c8,dC] at e3;have A9:=run_bytes_of_string (P:=P) w s d e ⟨⟨sl⟩⟩ hs hd he;have BD:(⟨⟨sl⟩⟩:ByteArray).size=l:=hl;rw[BD] at A9;generalize JL:grownCap w l 0 e=cap at A9;have Iu:l<=cap:=by rw[<-JL];exact grownCap_ge _ _ _ _
 have Mv:(bytesRow ⟨⟨sl⟩⟩ cap).toList.length=cap:=by simp[bytesRow,BD];omega
 have Hd:HR P w0 J h nx w.drew:=H.drawn _;have BQ:cs.length=l:=by rw[g2.1];simp[pA,hl]
 have hq:=H.fresh nx (Ae _)
 obtain⟨f1,f2⟩:=Hd.make (x:=.cells (bytesRow ⟨⟨sl⟩⟩ cap) e ((bytesRow ⟨⟨sl⟩⟩ cap).size,(bytesRow ⟨⟨sl⟩⟩ cap).size+1)) (N:=cap) (ob:=.ro l (dK cs 0 .nil)) (by
  refine .ro _ _ _ _ (bytesRow ⟨⟨sl⟩⟩ cap).toList _ _ (AM.heap_alloc_new (w:=w.drew) _) (by rw[Mv];exact Iu) (λi u hi hu=>?_) λi hi=>?_
  ·rw[TL.puts cs .nil i cs[i] (by simp[BQ,hi])]
   refine(g2.mono (ak.mz hq)).2 i _ u (by simp[BQ,hi]) ?_;have D7:i<sl.length:=by omega
   have h2:=bytesRow_at ⟨⟨sl⟩⟩ cap i (by simpa using D7);rw[Cp,h2] at hu;simp at hu;subst hu;simp[pA,D7]
  ·rw[TL.puts cs .nil i cs[i] (by simp[BQ,hi])]
   exact g3 _ (Ea _))
 refine⟨_,_,_,e3,_,_,.slice (some ⟨w.heap.size,0,none⟩) l cap,.inl ?_,.su _ _ _ _ _ _ _ ak.nh Iu (by omega),f1,f2,by rw[Q.kl];omega⟩;simp[execOp,hv,A9]
end
section
open Go.AM (aU aW bC aQ)
variable {P:Program}{w0:cL}{w:World}{J:ak}{h:T O}{nx:Q}{tm:T V}{tmps:Array Value}{ds:List Deferred}{r v:V}
theorem zZ{o:Option WB}{b:WB}(hb:Lh o=.w b):o=some b:=by
 cases o with
 |none=>cases hb
 |some p=>simp only[Lh] at hb;cases hb;rfl
theorem oT{o:Option PB}{b:WB}(hb:IA o=.w b):False:=by cases o<;>cases hb
theorem W4{o:Option AB}{b:WB}(hb:Ky o=.w b):False:=by cases o<;>cases hb
theorem aNR{t:TypeId}(h:∃u:Unit,(match P.underlying t with|some (.slice _)=>some ()|some .string=>some ()|_=>none)=some u):∃d,P.underlying t=some d/\∀k,d≠.int k:=by
 obtain⟨u,h⟩:=h
 split at h
 ·rename_i hu;exact⟨_,hu,λk e=>by cases e⟩
 ·rename_i hu;exact⟨_,hu,λk e=>by cases e⟩
 ·cases h
theorem aPx(H:HR P w0 J h nx w){o:Oper}{b:WB}{k:V->T O->Q->aa}(hb:bU P o=.w b)(hT:XR J tm tmps o.op.operands.toList)(e:wK b tm h nx k=.ok r) :
  ∃v h' nx',k v h' nx'=.ok r/\WG P w0 w J tmps ds o h nx v h' nx':=by
 obtain⟨dst,op,ty,pos,AK,BE⟩:=o;cases op<;>simp only[bU] at hb
 case store t a x =>
  obtain⟨s,hs,hb⟩:=mY (zZ hb);subst hb;exact aXQ H hs hT e
 case mapUpdate t m key x =>
  split at hb
  ·rename_i s el ht
   cases hb;exact ZG H (.inl rfl) ht hT e
  ·cases hb
 case insert t m key x =>
  split at hb
  ·rename_i s el ht
   cases hb;exact ZG H (.inr rfl) ht hT e
  ·cases hb
 case convert s d x =>
  split at hb
  ·cases hb
  ·rename_i hs hd
   split at hb
   ·rename_i he
    cases hb;exact aXP H hs hd he hT e
   ·cases hb
  ·cases hb
 case call c =>
  obtain⟨NN,a,ts⟩:=c;cases NN<;>simp only[hU] at hb
  ·cases hb
  ·cases hb
  ·split at hb
   ·rename_i ha KX
    obtain⟨el,KG,hb⟩:=dQ (zZ hb);obtain⟨u,hu,hb⟩:=dQ hb;obtain⟨s,hs,hb⟩:=dQ hb;obtain⟨z,hz,hb⟩:=dQ hb
    split at hb
    ·rename_i hg
     simp at hb;subst hb;simp only[Ac] at hg;exact aXO H ha KX (a2j KG) (aNR ⟨u,hu⟩) hs hz (dR hg.1.1) (Ad hg.1.2) (dR hg.2) hT e
    ·cases hb
   ·split at hb<;>cases hb
   ·cases hb
   ·cases hb
   ·cases hb
 case defer c=>split at hb<;>cases hb
 case alloc t=>exact(W4 hb).elim
 case box t x=>exact(W4 hb).elim
 case buildSlice t len parts=>exact(W4 hb).elim
 case makeMap t r'=>split at hb<;>cases hb
 case binOp op t x y yt=>cases hb
 case build t parts=>exact(oT hb).elim
 case load t a=>exact(oT hb).elim
 case unOp op t x=>cases op<;>cases hb
 case makeInterface t x=>split at hb<;>cases hb
 case makeFunc fn first caps=>split at hb<;>cases hb
 case slice t x lo hi mx =>
  split at hb
  ·cases hb
  ·split at hb
   ·cases hb
   ·exact(oT hb).elim
  ·cases hb
 case fieldAddr t x f=>exact(oT hb).elim
 case field t x f=>exact(oT hb).elim
 case indexAddr t x i =>
  split at hb
  ·exact(oT hb).elim
  ·exact(oT hb).elim
  ·cases hb
 case index t x i =>
  split at hb
  ·cases hb
  ·exact(oT hb).elim
  ·cases hb
 case lookup t m key ok =>
  split at hb
  ·exact(oT hb).elim
  ·cases hb
 case typeAssert x xt t Hc=>exact(oT hb).elim
 all_goals cases hb
theorem ym:∀{a b:V},SG a b=true->a=b:=by
 intro a b e;cases a<;>cases b<;>simp only[SG,Ac,Cb,Bg] at e
 all_goals first
  |rfl
  |(subst e;rfl)
  |(obtain⟨e1,e2⟩:=e;have h1:=uU e1;rw[rX] at e2;simp at e2;subst h1;subst e2;rfl)
  |(obtain⟨e1,e2⟩:=e;have h1:=Aa e1;have h2:=Aa e2;subst h1;subst h2;rfl)
  |(obtain⟨e1,e2⟩:=e;have h1:=Q.beq_iff.1 e1;have h2:=Aa e2;subst h1;subst h2;rfl)
  |(obtain⟨⟨⟨e1,e2⟩,e3⟩,e4⟩:=e;have h1:=Q.beq_iff.1 e1;have h2:=Aa e2;have h3:=Aa e3;have h4:=Aa e4;subst h1;subst h2;subst h3;subst h4;rfl)
  |(have h1:=Q.beq_iff.1 e;subst h1;rfl)
  |cases e
theorem wB:∀{l m:List V},NL l m=true->l=m
 |[],[],_=>rfl
 |[],_::_,e=>by cases e
 |_::_,[],e=>by cases e
 |a::l,b::m,e=>by
  simp only[NL] at e
  split at e
  ·rename_i h1
   rw[ym h1,wB e]
  ·cases e
theorem aMo{a b:V}(e:MN a b=true):a=b:=by
 cases a<;>simp only[MN] at e
 case agg l=>cases b<;>simp only[Bg] at e;rw[wB e]
 case aj l=>cases b<;>simp only[Bg] at e;rw[wB e]
 case fn f l l' =>
  cases b<;>simp only[Bg] at e
  simp only[Ac] at e;rw[Q.beq_iff.1 e.1,wB e.2.1,wB e.2.2]
 all_goals exact ym e
end
end Go.CM
end
