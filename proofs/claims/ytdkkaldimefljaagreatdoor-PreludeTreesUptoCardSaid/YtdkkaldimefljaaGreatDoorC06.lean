import Derived.Test.YtdkkaldimefljaaGreatDoorC05
set_option linter.all false
noncomputable section
namespace Go.CM
open Go.AM (oneC overwrite aP aN run_underlying run_sizeOf aQ aZ bC aL aR bU cD bytes_beq run_getObj run_setObj heap_alloc_new heap_alloc_old eV bW)
variable {P:Program} {w0 w:World} {ρ:Rho} {h:T O} {nx:Q} {tm:T V} {tmps:Array Value} {ds:List Deferred} {r v:V}
def aAN:O→Bool
 |.dead=>false
 |.ro _ _=>false
 |_=>true
theorem Sh.dead (x:O) (q:Q):Sh x .dead q:=by cases x <;> simp [Sh]
theorem Sh.of_not {x y:O} {q:Q} (h:aAN x=false):Sh x y q:=by cases x <;> first|trivial|cases h
theorem HR.upd (H:HR P w0 ρ h nx w) {o:Q} {b N:Nat} {x:Obj} (ho:ρ o=some (b,N)) (hB:w0.heap.size≤b) {h':T O}
  (h1:OR P ρ (w.putObj b x) w0.heap.size (h'.ob o) b N) (h2:∀ q,q≠o→h'.ob q=h.ob q∨h'.ob q=.dead)
  (h3:∀ q N',q≠o→ρ q=some (b,N')→OR P ρ (w.putObj b x) w0.heap.size (h'.ob q) b N'∧Sh (h'.ob o) (h'.ob q) q∧aAN (h'.ob q)=false):HR P w0 ρ h' nx (w.putObj b x):=by
 have hoth:∀ b',b'≠b→(w.putObj b x).heap[b']?=w.heap[b']?:=fun b' hb'=>World.putObj_heap_other hb'
 have hsz:(w.putObj b x).heap.size=w.heap.size:=by simp
 refine ⟨by rw[hsz];exact H.size,fun b' hb'=>by rw[hoth b' (by omega)];exact H.old b' hb',H.os,H.tape,H.output,H.glob,H.fresh,fun q b' N' e=>by rw[hsz];exact H.lt q b' N' e,fun q b' N' e=>?_,fun q q' b' N1 N2 hne e1 e2=>?_,fun q hq=>?_⟩
 ·by_cases hq:q=o
  ·subst hq
   rw[ho] at e;simp at e;obtain ⟨rfl,rfl⟩:=e;exact h1
  ·by_cases hb':b'=b
   ·subst hb';exact (h3 q N' hq e).1
   ·rcases h2 q hq with h4|h4
    ·rw[h4];exact (H.obj q b' N' e).mono (Rho.le_refl _) (hoth b' hb')
    ·rw[h4];exact .dead _ _
 ·by_cases hq:q=o
  ·subst hq
   rw[ho] at e1;simp at e1;obtain ⟨rfl,rfl⟩:=e1;exact (h3 q' N2 (fun e=>hne e.symm) e2).2.1
  ·by_cases hq':q'=o
   ·subst hq'
    rw[ho] at e2;simp at e2;obtain ⟨rfl,rfl⟩:=e2;exact Sh.of_not (h3 q N1 hq e1).2.2
   ·rcases h2 q hq with h4|h4
    ·rcases h2 q' hq' with h5|h5
     ·rw[h4,h5];exact H.sep q q' b' N1 N2 hne e1 e2
     ·rw[h5];exact Sh.dead _ _
    ·rw[h4];trivial
 ·rcases h2 q (fun e=>by subst e;rw[H.fresh _ hq] at ho;cases ho) with h4|h4
  ·rw[h4];exact H.dead q hq
  ·exact h4
theorem Keep.of {β:Nat} {h':T O} (hk:∀ q,ρ q=none→h'.ob q=h.ob q):Keep β ρ h ρ h':=⟨Rho.le_refl _,fun q _ hq=>⟨hq,hk q hq⟩⟩
theorem b8 (h:T O) (o:O) (p q:Q):(h.put .dead o p).ob q=if p=q then o else h.ob q:=T.get_put _ _ _ _ _
def vJ:List Q→T O→T O
 |[],h=>h
 |q::qs,h=>vJ qs (h.put .dead .dead q)
theorem je:∀ (qs:List Q) (h:T O) (k:T O→Res),vH qs h k=k (vJ qs h)
 |[],h,k=>rfl
 |q::qs,h,k=>by simp only[vH,cK,je qs,vJ]
theorem o9:∀ (qs:List Q) (h:T O) (q:Q),(vJ qs h).ob q=if q∈qs then .dead else h.ob q
 |[],h,q=>by simp [vJ]
 |p::qs,h,q=>by
  simp only[vJ,o9 qs,b8];by_cases h1:q∈qs
  ·simp [h1]
  ·by_cases h2:p=q
   ·subst h2;simp
   ·simp [h1,h2,Ne.symm h2]
theorem bk (H:HR P w0 ρ h nx w) {o:Q} {b N off:Nat} {vs:List V} {us:List Value} {k:T O→Res} (ho:ρ o=some (b,N)) (hv:VRs ρ vs us) (hk:∀ c∈vs,isCell c=true) (e:wrK o off vs h k=.ok r) :
  ∃ h' Vs T,k h'=.ok r∧w.heap[b]?=some (.cells ⟨Vs⟩ T (0,0))∧off+us.length≤Vs.length∧HR P w0 ρ h' nx (w.putObj b (.cells ⟨overwrite Vs off us⟩ T (0,0)))∧Keep nx.nat ρ h ρ h':=by
 unfold wrK at e;rw[bS] at e;have hO:=H.obj o b N ho
 split at e
 ·rename_i n t anc flo T ex hob
  rw[cF] at e;obtain ⟨hg,e⟩:=bR e;rw[dF] at e;have hle:=Nat.le_of_ble_eq_true hg;rw[hob] at hO;cases hO with
  |row _ _ _ _ _ _ _ _ Vs hB hw hN hn hf he ha hx hc =>
  have hblt:=(Array.getElem?_eq_some_iff.1 hw).1;have hlen:us.length=vs.length:=hv.1.symm;have hle':off+us.length≤Vs.length:=by rw[hlen];omega
  generalize hw':w.putObj b (.cells ⟨overwrite Vs off us⟩ T (0,0))=w';have hheap:w'.heap[b]?=some (.cells ⟨overwrite Vs off us⟩ T (0,0)):=by rw[←hw'];exact World.putObj_heap_same hblt
  have hnew:∀ anc' flo',(∀ a∈anc',ρ a≠none)→flo'≤n→OR P ρ w' w0.heap.size (.row n (dE vs off t) anc' flo' T ex) b N:=fun anc' flo' ha' hf'=>by
   refine .row _ _ _ _ _ _ _ _ _ hB hheap (by rw[aN _ _ _ hle'];exact hN) hn hf' he ha' (fun i u hi hu=>?_) fun i hi=>?_
   ·rw[aP _ _ _ _ hle'] at hu
    rw[iA];by_cases g1:i < off
    ·rw[if_pos g1] at hu
     rw[if_neg (by omega)];exact hx i u hi hu
    ·rw[if_neg g1] at hu
     by_cases g2:i < off+us.length
     ·rw[if_pos g2] at hu
      have hlt:i - off < vs.length:=by omega
      rw[if_pos ⟨by omega,by omega⟩];refine hv.2 (i - off) _ u ?_ hu;simp [List.getD_eq_getElem?_getD,hlt]
     ·rw[if_neg g2] at hu
      rw[if_neg (by omega)];exact hx i u hi hu
   ·rw[iA]
    split
    ·rename_i hi2
     have hlt:i - off < vs.length:=by omega
     refine hk _ ?_;simp [List.getD_eq_getElem?_getD,hlt]
    ·exact hc i hi
  have hro:∀ q N' n' t',ρ q=some (b,N')→h.ob q=.ro n' t'→n'≤off→OR P ρ w' w0.heap.size (.ro n' t') b N':=fun q N' n' t' hq hqo hno=>by
   have:=H.obj q b N' hq
   rw[hqo] at this;cases this with
   |ro _ _ _ _ Vs' T' fz hw2 hn2 hx2 hc2 =>
   rw[hw] at hw2;simp at hw2;obtain ⟨rfl,rfl,rfl⟩:=hw2;refine .ro _ _ _ _ _ T _ hheap (by rw[aN _ _ _ hle'];exact hn2) (fun i u hi hu=>?_) hc2;rw[aP _ _ _ _ hle',if_pos (by omega)] at hu;exact hx2 i u hi hu
  split at e
  ·rename_i hfl
   have hfl:=Nat.le_of_ble_eq_true hfl;rw[cK] at e;refine ⟨_,Vs,T,e,hw,hle',?_,.of fun q hq=>by rw[b8,if_neg (fun e=>by subst e;rw[ho] at hq;cases hq)]⟩;rw[←hw'] at hnew hro;rw[hw'];rw[←hw'];refine H.upd ho hB (by rw[b8,if_pos rfl];exact hnew anc flo ha hf) (fun q hq=>.inl (by rw[b8,if_neg (Ne.symm hq)])) fun q N' hq hqb=>?_
   have hs:=H.sep o q b N N' (Ne.symm hq) ho hqb;rw[hob] at hs;rw[b8,if_neg (Ne.symm hq),b8,if_pos rfl];rcases hs with hs|⟨n',t',hs,hqa,hn'⟩
   ·rw[hs];exact ⟨.dead _ _,Sh.dead _ _,rfl⟩
   ·rw[hs];exact ⟨hro q N' n' t' hqb hs (by omega),.inr ⟨n',t',rfl,hqa,hn'⟩,rfl⟩
  ·rw[je,cK] at e
   refine ⟨_,Vs,T,e,hw,hle',?_,.of fun q hq=>by
    rw[b8,if_neg (fun e=>by subst e;rw[ho] at hq;cases hq),o9,if_neg (fun hm=>ha q hm hq)]⟩
   rw[←hw'] at hnew hro;rw[hw'];rw[←hw'];refine H.upd ho hB (by rw[b8,if_pos rfl];exact hnew [] 0 (fun a ha=>by cases ha) (Nat.zero_le _)) (fun q hq=>?_) fun q N' hq hqb=>?_
   ·rw[b8,if_neg (Ne.symm hq),o9]
    split
    ·exact .inr rfl
    ·exact .inl rfl
   ·have hs:=H.sep o q b N N' (Ne.symm hq) ho hqb
    rw[hob] at hs
    have hd:((vJ anc h).put .dead (.row n (dE vs off t) [] 0 T ex) o).ob q=.dead:=by
     rw[b8,if_neg (Ne.symm hq),o9];rcases hs with hs|⟨n',t',hs,hqa,hn'⟩
     ·rw[hs];simp
     ·rw[if_pos hqa]
    rw[hd];exact ⟨.dead _ _,Sh.dead _ _,rfl⟩
 ·cases e
def WG (P:Program) (w0 w:World) (ρ:Rho) (tmps:Array Value) (ds:List Deferred) (o:Oper) (h:T O) (nx:Q) (v:V) (h':T O) (nx':Q):Prop :=
 ∃ w' ρ' u,((execOp (ev tmps ds) o).run P w=.ok (.value u) w'∨((execOp (ev tmps ds) o).run P w=.ok .skip w'∧u=Go.undef))∧VR ρ' v u∧HR P w0 ρ' h' nx' w'∧Keep nx.nat ρ h ρ' h'∧nx.nat≤nx'.nat
section
variable {dst:Option Nat} {ty:TypeId} {pos:String} {aft:Array Edge} {gd':Option (Nat×Bool)} {k:V→T O→Q→Res}
theorem aKU (H:HR P w0 ρ h nx w) {t:TypeId} {a x:Operand} {n:Nat} (hs:aZ P t=some n) (hT:XR ρ tm tmps (Op.operands (.store t a x)).toList) (e:wK (.st n (aD P a) (aD P x)) tm h nx k=.ok r) :
  ∃ v h' nx',k v h' nx'=.ok r∧WG P w0 w ρ tmps ds ⟨dst,.store t a x,ty,pos,aft,gd'⟩ h nx v h' nx':=by
 simp only[wK] at e;obtain ⟨c,e1,hc⟩:=opd (ds:=ds) (o:=⟨dst,.store t a x,ty,pos,aft,gd'⟩) H hT (by simp [Op.operands]) e;obtain ⟨o,off,ho,e2⟩:=kN e1;subst ho;obtain ⟨d,e3,hd⟩:=opd (ds:=ds) (o:=⟨dst,.store t a x,ty,pos,aft,gd'⟩) H hT (by simp [Op.operands]) e2;obtain ⟨l,hl,e4⟩:=qV e3;rw[cF] at e4;obtain ⟨hg,e5⟩:=bR e4;obtain ⟨b,N,hv,hb⟩:=hc.inv_ptr;obtain ⟨g1,g2,g3⟩:=hd.cells hl;obtain ⟨h',Vs,T,f1,f2,f3,f4,f5⟩:=bk H hb g1 g2 e5;refine ⟨_,_,_,f1,_,ρ,_,.inr ⟨?_,rfl⟩,VR.undef,f4,f5,Nat.le_refl _⟩
 have hsz:(ev tmps ds x).cells.size=n:=by
  have:=g1.1
  rw[Nat.eq_of_beq_eq_true hg] at this;simpa using this.symm
 have:=eV (P:=P) (t:=t) (o:=off) (v:=ev tmps ds x) (by rw[hsz];exact hs) f2 g3 (by simpa using f3)
 simp [execOp,hv,Instr.storeAt,Instr.sureAddr,this]
theorem HR.putMap (H:HR P w0 ρ h nx w) {o:Q} {b N:Nat} {x x':O} {y:Obj} (ho:ρ o=some (b,N)) (hx:h.ob o=x) (he:aAN x=true) (hr:∀ n t anc flo T ex,x≠.row n t anc flo T ex) (he':aAN x'=true) (hr':∀ n t anc flo T ex,x'≠.row n t anc flo T ex)
  (hB:w0.heap.size≤b) (hn:OR P ρ (w.putObj b y) w0.heap.size x' b N):HR P w0 ρ (h.put .dead x' o) nx (w.putObj b y)∧Keep nx.nat ρ h ρ (h.put .dead x' o):=by
 refine ⟨H.upd ho hB (by rw[b8,if_pos rfl];exact hn) (fun q hq=>.inl (by rw[b8,if_neg (Ne.symm hq)])) fun q N' hq hqb=>?_,.of fun q hq=>by rw[b8,if_neg (fun e=>by subst e;rw[ho] at hq;cases hq)]⟩;have hs:=H.sep o q b N N' (Ne.symm hq) ho hqb;rw[hx] at hs
 have hd:h.ob q=.dead:=by
  cases x <;> first|exact hs|exact absurd rfl (hr _ _ _ _ _ _)|cases he
 rw[b8,if_neg (Ne.symm hq),hd];exact ⟨.dead _ _,Sh.dead _ _,rfl⟩
theorem mX (H:HR P w0 ρ h nx w) {s:KK} {t:TypeId} {x z:V} {f:V→V} {ux:Value} (hk:KT P s t) (hx:VR ρ x ux) :
  ∀ {es:List (V×V)} {ents:List MapEntry} {i:Nat} {k:List (V×V)→Nat→V→Res},MR ρ es ents→kR s h x f z es i k=.ok r →
  (∃ es',k es' (i+es.length) z=.ok r∧es'=es++[(x,f z)]∧(Instr.findAsking t ux ents i).run P w=.ok none w∧∀ d r',P.underlying t=some d→Instr.findNow d ux ents i=some r'→r'=none) ∨
   ∃ es' j c e',k es' (i+j) c=.ok r∧ents[j]?=some e'∧VR ρ c e'.val∧es'=es.set j (x,f c)∧(Instr.findAsking t ux ents i).run P w=.ok (some (i+j,e'.val)) w ∧
    (∀ d r',P.underlying t=some d→Instr.findNow d ux ents i=some r'→r'=some (i+j,e'.val))∧Instr.sameBits 10000 e'.key ux=true
 |[],[],i,k,hm,e=>.inl ⟨_,e,rfl,by simp [Instr.findAsking],fun d r' _ h=>by simp [Instr.findNow] at h;exact h.symm⟩
 |[],_::_,i,k,hm,e=>by have:=hm.len;simp at this
 |_::_,[],i,k,hm,e=>by have:=hm.len;simp at this
 |(y,v)::es,en::ents,i,k,hm,e=>by
  simp only[kR] at e;obtain ⟨b,e,s1,s2,s3⟩:=uT H hk hx (hm.key 0 (y,v) en rfl rfl) e;have htl:MR ρ es ents:=⟨by have:=hm.len;simpa using this,fun i p e h1 h2=>hm.key (i+1) p e (by simpa using h1) (by simpa using h2),fun i p e h1 h2=>hm.val (i+1) p e (by simpa using h1) (by simpa using h2)⟩
  cases b with
  |true =>
   refine .inr ⟨_,0,v,en,e,rfl,hm.val 0 (y,v) en rfl rfl,rfl,by simp [Instr.findAsking,s1],fun d r' hd h=>?_,s3 rfl⟩;simp only[Instr.findNow] at h
   split at h
   ·simpa using h.symm
   ·rename_i hs;have:=s2 d _ hd hs;cases this
   ·cases h
  |false =>
   simp only at e;rw[aF] at e
   have now:∀ d r',P.underlying t=some d→Instr.findNow d ux (en::ents) i=some r'→Instr.findNow d ux ents (i+1)=some r':=fun d r' hd h=>by
    simp only[Instr.findNow] at h
    split at h
    ·rename_i hs;have:=s2 d _ hd hs;cases this
    ·exact h
    ·cases h
   rcases mX H hk hx (i:=i+1) htl e with ⟨es',f1,f2,f3,f4⟩|⟨es',j,c,e',f1,f2,f3,f4,f5,f6,f7⟩
   ·refine .inl ⟨(y,v)::es',?_,by rw[f2];rfl,by simp [Instr.findAsking,s1,f3],fun d r' hd h=>f4 d r' hd (now d r' hd h)⟩
    rw[List.length_cons,show i+(es.length+1)=i+1+es.length by omega];exact f1
   ·refine .inr ⟨(y,v)::es',j+1,c,e',?_,by simpa using f2,f3,by rw[f4];rfl,?_,fun d r' hd h=>?_,f7⟩
    ·rw[show i+(j+1)=i+1+j by omega];exact f1
    ·rw[show i+(j+1)=i+1+j by omega];simp [Instr.findAsking,s1,f5]
    ·rw[show i+(j+1)=i+1+j by omega];exact f6 d r' hd (now d r' hd h)
theorem pQ {a b:Value} (h:Instr.sameBits 10000 a b=true):(Instr.keyThatStays a b).run P w=.ok b w:=by simp [Instr.keyThatStays,h]
theorem MR.push {es:List (V×V)} {ents:List MapEntry} {x z:V} {g:MapEntry} (h:MR ρ es ents) (hx:VR ρ x g.key) (hz:VR ρ z g.val):MR ρ (es++[(x,z)]) (ents++[g]):=by
 have hl:=h.len
 have both:∀ (i:Nat) p e,(es++[(x,z)])[i]?=some p→(ents++[g])[i]?=some e→VR ρ p.1 e.key∧VR ρ p.2 e.val:=fun i p e hp he=>by
  rw[List.getElem?_append] at hp he;by_cases hi:i < es.length
  ·rw[if_pos hi] at hp
   rw[if_pos (by omega)] at he;exact ⟨h.key i p e hp he,h.val i p e hp he⟩
  ·rw[if_neg hi] at hp
   rw[if_neg (by omega)] at he;have h2:i - es.length < 1:=by have:=(List.getElem?_eq_some_iff.1 hp).1;simpa using this
   rw[show i - es.length=0 by omega] at hp;rw[show i - ents.length=0 by omega] at he;simp at hp he;subst hp;subst he;exact ⟨hx,hz⟩
 exact ⟨by simp [hl],fun i p e hp he=>(both i p e hp he).1,fun i p e hp he=>(both i p e hp he).2⟩
theorem MR.set {es:List (V×V)} {ents:List MapEntry} {p:V×V} {g:MapEntry} {j:Nat} (h:MR ρ es ents) (hx:VR ρ p.1 g.key) (hz:VR ρ p.2 g.val):MR ρ (es.set j p) (ents.set j g):=by
 refine ⟨by simp [h.len],fun i q e hq he=>?_,fun i q e hq he=>?_⟩
 all_goals
  by_cases hij:j=i
  ·subst hij
   rw[List.getElem?_set_self' ] at *
   simp_all
   try grind
  ·rw[List.getElem?_set_ne hij] at *
   first|exact h.key i q e hq he|exact h.val i q e hq he
theorem Born.push {ents:List MapEntry} {cl:Nat} (h:Born ents cl) (a b:Value):Born (ents++[⟨a,b,cl⟩]) (cl+1):=by
 refine ⟨by simp [h.1],fun i e he=>?_⟩;rw[List.getElem?_append] at he
 split at he
 ·exact h.2 i e he
 ·have h2:i - ents.length < 1:=by have:=(List.getElem?_eq_some_iff.1 he).1;simpa using this
  rw[show i - ents.length=0 by omega] at he;simp at he;subst he
  have:=h.1
  simp only;omega
theorem Born.set {ents:List MapEntry} {cl j:Nat} {e g:MapEntry} (h:Born ents cl) (hj:ents[j]?=some e) (hb:g.born=e.born):Born (ents.set j g) cl:=by
 refine ⟨by simpa using h.1,fun i x hx=>?_⟩;by_cases hij:j=i
 ·subst hij
  have hlt:=(List.getElem?_eq_some_iff.1 hj).1;rw[List.getElem?_set_self hlt] at hx;simp at hx;subst hx;rw[hb];exact h.2 j e hj
 ·rw[List.getElem?_set_ne hij] at hx
  exact h.2 i x hx
end
end Go.CM
end
noncomputable section
namespace Go.CM
open Go.AM (oneC overwrite aP aN run_underlying run_sizeOf aQ aZ bC aL aR bU cD bytes_beq run_getObj run_setObj eV bW)
variable {P:Program} {w0 w:World} {ρ:Rho} {h:T O} {nx:Q} {tm:T V} {tmps:Array Value} {ds:List Deferred} {r v:V}
section
variable {dst:Option Nat} {ty:TypeId} {pos:String} {aft:Array Edge} {gd':Option (Nat×Bool)} {k:V→T O→Q→Res}
theorem sH (ents:List MapEntry) (i:Nat):(⟨ents⟩:Array MapEntry)[i]?=ents[i]?:=by simp
theorem kg (ents:List MapEntry) (e:MapEntry):(⟨ents⟩:Array MapEntry).push e=⟨ents++[e]⟩:=by apply Array.ext';simp
theorem nV (ents:List MapEntry) (j:Nat) (f:MapEntry→MapEntry) (e:MapEntry) (he:ents[j]?=some e):(⟨ents⟩:Array MapEntry).modify j f=⟨ents.set j (f e)⟩:=by
 apply Array.ext';apply List.ext_getElem?;intro i;have hlt:=(List.getElem?_eq_some_iff.1 he).1;rw[Array.getElem?_toList,Array.getElem?_modify,sH];show _=(ents.set j (f e))[i]?;by_cases hij:j=i
 ·subst hij
  rw[if_pos rfl,he,List.getElem?_set_self hlt];rfl
 ·rw[if_neg hij,List.getElem?_set_ne hij]
theorem HR.setMap (H:HR P w0 ρ h nx w) {o:Q} {b N:Nat} {es es':List (V×V)} {ents':List MapEntry} {cl':Nat} (ho:ρ o=some (b,N)) (hes:h.ob o=.map es∨h.ob o=.mapd es) (hB:w0.heap.size≤b) (hb:b < w.heap.size) (hm:MR ρ es' ents')
  (hborn:h.ob o=.map es→Born ents' cl'):HR P w0 ρ (h.put .dead (aAb (h.ob o) es') o) nx (w.putObj b (.map ⟨ents'⟩ cl'))∧Keep nx.nat ρ h ρ (h.put .dead (aAb (h.ob o) es') o):=by
 rcases hes with hes|hes
 ·rw[hes]
  exact H.putMap ho hes rfl (fun _ _ _ _ _ _ e=>by cases e) rfl (fun _ _ _ _ _ _ e=>by cases e) hB (.map _ _ _ _ _ hB (World.putObj_heap_same hb) hm (hborn hes))
 ·rw[hes]
  exact H.putMap ho hes rfl (fun _ _ _ _ _ _ e=>by cases e) rfl (fun _ _ _ _ _ _ e=>by cases e) hB (.mapd _ _ _ _ _ hB (World.putObj_heap_same hb) hm)
theorem HR.map' (H:HR P w0 ρ h nx w) {o:Q} {b N:Nat} {es:List (V×V)} (ho:ρ o=some (b,N)) (hm:h.ob o=.map es∨h.ob o=.mapd es):∃ (ents:List MapEntry) (cl:Nat),w.heap[b]?=some (.map ⟨ents⟩ cl)∧MR ρ es ents∧w0.heap.size≤b∧(h.ob o=.map es→Born ents cl):=by
 have:=H.obj o b N ho
 rcases hm with hm|hm
 ·rw[hm] at this
  cases this with|map _ ents cl _ _ hb hw hmr hc=>exact ⟨ents,cl,hw,hmr,hb,fun _=>hc⟩
 ·rw[hm] at this
  cases this with|mapd _ ents cl _ _ hb hw hmr=>exact ⟨ents,cl,hw,hmr,hb,fun e=>by rw[hm] at e;cases e⟩
theorem aJB (H:HR P w0 ρ h nx w) {t el:TypeId} {s:KK} {m key x:Operand} {op:Op} (hop:op=.mapUpdate t m key x∨op=.insert t m key x) (ht:qZ P t=some (s,el)) (hT:XR ρ tm tmps op.operands.toList) (e:wK (.mu s (aD P m) (aD P key) (aD P x)) tm h nx k=.ok r) :
  ∃ v h' nx',k v h' nx'=.ok r∧WG P w0 w ρ tmps ds ⟨dst,op,ty,pos,aft,gd'⟩ h nx v h' nx':=by
 have hops:op.operands=#[m,key,x]:=by rcases hop with rfl|rfl <;> rfl
 simp only[wK] at e;obtain ⟨c,e1,hc⟩:=opd (ds:=ds) (o:=⟨dst,op,ty,pos,aft,gd'⟩) H hT (by simp [hops]) e;obtain ⟨kv,e2,hkv⟩:=opd (ds:=ds) (o:=⟨dst,op,ty,pos,aft,gd'⟩) H hT (by simp [hops]) e1;obtain ⟨xv,e3,hxv⟩:=opd (ds:=ds) (o:=⟨dst,op,ty,pos,aft,gd'⟩) H hT (by simp [hops]) e2;obtain ⟨e4,hkf⟩:=oV e3;cases c <;> simp only at e4 <;> first|cases e4|skip
 rename_i o;rw[bS] at e4;obtain ⟨es,hes,e5⟩:=oR e4;obtain ⟨b,N,hm,hb⟩:=hc.inv_map;obtain ⟨ents,cl,g1,g2,g3,g4⟩:=H.map' hb hes;obtain ⟨kt,hu,hkt⟩:=sF ht;obtain ⟨d,hd⟩:=hkt.desc;have hlt:=(Array.getElem?_eq_some_iff.1 g1).1;have hget:=run_getObj (P:=P) g1 (by simp);have dJ:=fun o'=>run_setObj (P:=P) (o':=o') g1 (by simp)
 have hck:=run_checkKey (w:=w) hkt hkv hkf false 9998
 have fin:∀ es' ents' cl',k V.undef (h.put .dead (aAb (h.ob o) es') o) nx=.ok r→MR ρ es' ents'→(h.ob o=.map es→Born ents' cl')→(Instr.mapUpdate t (ev tmps ds m) (ev tmps ds key) (ev tmps ds x)).run P w=.ok () (w.putObj b (.map ⟨ents'⟩ cl')) →
   ∃ v h' nx',k v h' nx'=.ok r∧WG P w0 w ρ tmps ds ⟨dst,op,ty,pos,aft,gd'⟩ h nx v h' nx':=fun es' ents' cl' hk hmr hbn hrun=>by
  obtain ⟨f1,f2⟩:=H.setMap hb hes g3 hlt hmr hbn;refine ⟨_,_,_,hk,_,ρ,_,.inr ⟨?_,rfl⟩,VR.undef,f1,f2,Nat.le_refl _⟩;rcases hop with rfl|rfl
  ·simp [execOp,hrun]
  ·simp [execOp,hrun]
 rcases mX (i:=0) H hkt hkv g2 e5 with ⟨es',f1,f2,f3,f4⟩|⟨es',j,c',e',f1,f2,f3,f4,f5,f6,f7⟩
 ·rw[cK] at f1
  have hfk:=run_findKey hd f3 f4;subst f2;refine fin _ (ents++[⟨ev tmps ds key,ev tmps ds x,cl⟩]) (cl+1) f1 (g2.push hkv hxv) (fun h1=>(g4 h1).push _ _) ?_;rw[hm];simp only[Instr.mapUpdate,Sem.run_bind,run_underlying hu,Result.andThen_ok,hget,hck,hfk,dJ,kg]
 ·rw[cK] at f1
  have hfk:=run_findKey hd f5 f6;subst f4;refine fin _ (ents.set j { e' with key:=ev tmps ds key,val:=ev tmps ds x }) cl f1 (g2.set hkv hxv) (fun h1=>(g4 h1).set f2 rfl) ?_;rw[hm]
  have hkk:(((⟨ents⟩:Array MapEntry)[0+j]?).map (·.key)).getD (ev tmps ds key)=e'.key:=by
   rw[Nat.zero_add,sH,f2];rfl
  have hst:(Instr.keyThatStays ((((⟨ents⟩:Array MapEntry)[0+j]?).map (·.key)).getD (ev tmps ds key)) (ev tmps ds key)).run P w=.ok (ev tmps ds key) w:=by
   rw[hkk];exact pQ f7
  simp only[Instr.mapUpdate,Sem.run_bind,run_underlying hu,Result.andThen_ok,hget,hck,hfk,hst,dJ];rw[Nat.zero_add,nV _ _ _ _ f2]
theorem aMW (H:HR P w0 ρ h nx w) {t el:TypeId} {s:KK} {z:V} {m key:Operand} (ht:qZ P t=some (s,el)) (hz:zeroV P el=some z) (hT:XR ρ tm tmps (Op.operands (.mapEntry t m key)).toList) (e:wK (.me s z (aD P m) (aD P key)) tm h nx k=.ok r) :
  ∃ v h' nx',k v h' nx'=.ok r∧WG P w0 w ρ tmps ds ⟨dst,.mapEntry t m key,ty,pos,aft,gd'⟩ h nx v h' nx':=by
 simp only[wK] at e;obtain ⟨c,e1,hc⟩:=opd (ds:=ds) (o:=⟨dst,.mapEntry t m key,ty,pos,aft,gd'⟩) H hT (by simp [Op.operands]) e;obtain ⟨kv,e2,hkv⟩:=opd (ds:=ds) (o:=⟨dst,.mapEntry t m key,ty,pos,aft,gd'⟩) H hT (by simp [Op.operands]) e1;obtain ⟨e4,hkf⟩:=oV e2;cases c <;> simp only at e4 <;> first|cases e4|skip
 rename_i o;rw[bS] at e4;obtain ⟨es,hes,e5⟩:=tq e4;obtain ⟨b,N,hm,hb⟩:=hc.inv_map;obtain ⟨ents,cl,g1,g2,g3,g4⟩:=H.map' hb (.inl hes);have hbn:=g4 hes;obtain ⟨kt,hu,hkt⟩:=sF ht;obtain ⟨d,hd⟩:=hkt.desc;obtain ⟨zv,hz1,hz2,_⟩:=oX (ρ:=ρ) hz;have hzr:=aQ (P:=P) (w:=w) hz1;have hlt:=(Array.getElem?_eq_some_iff.1 g1).1;have hget:=run_getObj (P:=P) g1 (by simp);have dJ:=fun o'=>run_setObj (P:=P) (o':=o') g1 (by simp)
 have hck:=run_checkKey (w:=w) hkt hkv hkf false 9998
 have fin:∀ es' ents' cl' i c u,k (.tup [c,.int .i64 (.ofNat i)]) (h.put .dead (.map es') o) nx=.ok r→MR ρ es' ents'→Born ents' cl'→VR ρ c u→(Instr.mapEntry t (ev tmps ds m) (ev tmps ds key)).run P w=.ok (.tuple #[u,.int .i64 i]) (w.putObj b (.map ⟨ents'⟩ cl')) →
   ∃ v h' nx',k v h' nx'=.ok r∧WG P w0 w ρ tmps ds ⟨dst,.mapEntry t m key,ty,pos,aft,gd'⟩ h nx v h' nx':=fun es' ents' cl' i c u hk hmr hb' hcu hrun=>by
  obtain ⟨f1,f2⟩:=H.setMap (cl':=cl') hb (.inl hes) g3 hlt hmr (fun _=>hb');rw[hes] at f1 f2;exact ⟨_,_,_,hk,_,ρ,_,.inl (by simp [execOp,hrun]),hcu.tup2 (.int _ _),f1,f2,Nat.le_refl _⟩
 rcases mX (i:=0) H hkt hkv g2 e5 with ⟨es',f1,f2,f3,f4⟩|⟨es',j,c',e',f1,f2,f3,f4,f5,f6,f7⟩
 ·rw[cK] at f1
  have hfk:=run_findKey hd f3 f4;subst f2;have hcl:es.length=cl:=by rw[g2.len,hbn.1]
  rw[Nat.zero_add,hcl] at f1;refine fin _ (ents++[⟨ev tmps ds key,zv,cl⟩]) (cl+1) _ _ zv f1 (g2.push hkv hz2) (hbn.push _ _) hz2 ?_;rw[hm];simp only[Instr.mapEntry,Sem.run_bind,run_underlying hu,Result.andThen_ok,hget,hck,hfk,dJ,hzr,Sem.run_pure,goInt,kg]
 ·rw[cK] at f1
  have hfk:=run_findKey hd f5 f6;subst f4;rw[Nat.zero_add] at f1;have hej:e'.born=j:=hbn.2 j e' f2;refine fin _ (ents.set j { e' with key:=ev tmps ds key }) cl _ _ e'.val f1 (g2.set hkv f3) (hbn.set f2 rfl) f3 ?_;rw[hm]
  have hkk:(((⟨ents⟩:Array MapEntry)[0+j]?).map (·.key)).getD (ev tmps ds key)=e'.key:=by
   rw[Nat.zero_add,sH,f2];rfl
  have hbb:(((⟨ents⟩:Array MapEntry)[0+j]?).map (fun e=>(e.born:Int))).getD 0=(j:Int):=by
   rw[Nat.zero_add,sH,f2];simp [hej]
  have hst:(Instr.keyThatStays ((((⟨ents⟩:Array MapEntry)[0+j]?).map (·.key)).getD (ev tmps ds key)) (ev tmps ds key)).run P w=.ok (ev tmps ds key) w:=by
   rw[hkk];exact pQ f7
  simp only[Instr.mapEntry,Sem.run_bind,run_underlying hu,Result.andThen_ok,hget,hck,hfk,hst,dJ,hbb,Sem.run_pure,goInt];rw[Nat.zero_add,nV _ _ _ _ f2]
theorem rj {v:V}:∀ {i:Nat} {es:List (V×V)} {k:List (V×V)→Res},yk v i es k=.ok r→∃ p,es[i]?=some p∧k (es.set i (p.1,v))=.ok r
 |i,[],k,e=>by cases i <;> cases e
 |0,(y,u)::es,k,e=>⟨_,rfl,e⟩
 |i+1,p::es,k,e=>by
  obtain ⟨q,h1,h2⟩:=rj (i:=i) (es:=es) e;exact ⟨q,by simpa using h1,h2⟩
theorem z8 {ents:List MapEntry} {cl:Nat} (hb:Born ents cl) {j:Nat} {e:MapEntry} (he:ents[j]?=some e):(⟨ents⟩:Array MapEntry).findIdx? (fun e=>(e.born:Int)==(j:Int))=some j:=by
 have hlt:=(List.getElem?_eq_some_iff.1 he).1;rw[show (⟨ents⟩:Array MapEntry)=ents.toArray from rfl,List.findIdx?_toArray,List.findIdx?_eq_some_iff_getElem];refine ⟨hlt,?_,fun i hi=>?_⟩
 ·have:=hb.2 j ents[j] (by simp [hlt])
  simp [this]
 ·have hil:i < ents.length:=by omega
  have:=hb.2 i ents[i] (by simp [hil])
  simp [this];omega
theorem aOu (H:HR P w0 ρ h nx w) {t:TypeId} {m s x:Operand} (hT:XR ρ tm tmps (Op.operands (.entryStore t m s x)).toList) (e:wK (.es (aD P m) (aD P s) (aD P x)) tm h nx k=.ok r) :
  ∃ v h' nx',k v h' nx'=.ok r∧WG P w0 w ρ tmps ds ⟨dst,.entryStore t m s x,ty,pos,aft,gd'⟩ h nx v h' nx':=by
 simp only[wK] at e;obtain ⟨c,e1,hc⟩:=opd (ds:=ds) (o:=⟨dst,.entryStore t m s x,ty,pos,aft,gd'⟩) H hT (by simp [Op.operands]) e;obtain ⟨sv,e2,hsv⟩:=opd (ds:=ds) (o:=⟨dst,.entryStore t m s x,ty,pos,aft,gd'⟩) H hT (by simp [Op.operands]) e1;obtain ⟨kd,i,hi,e3⟩:=iF e2;subst hi;obtain ⟨xv,e4,hxv⟩:=opd (ds:=ds) (o:=⟨dst,.entryStore t m s x,ty,pos,aft,gd'⟩) H hT (by simp [Op.operands]) e3;cases c <;> simp only at e4 <;> first|cases e4|skip
 rename_i o;rw[bS] at e4;obtain ⟨es,hes,e5⟩:=tq e4;obtain ⟨p,hp,e6⟩:=rj e5;rw[cK] at e6;obtain ⟨b,N,hm,hb⟩:=hc.inv_map;obtain ⟨ents,cl,g1,g2,g3,g4⟩:=H.map' hb (.inl hes);have hbn:=g4 hes;have hil:i < ents.length:=by rw[←g2.len];exact (List.getElem?_eq_some_iff.1 hp).1
 obtain ⟨en,hen⟩:∃ en,ents[i]?=some en:=⟨ents[i],by simp [hil]⟩
 have hlt:=(Array.getElem?_eq_some_iff.1 g1).1;have hget:=run_getObj (P:=P) g1 (by simp);have dJ:=fun o'=>run_setObj (P:=P) (o':=o') g1 (by simp)
 obtain ⟨f1,f2⟩:=H.setMap (es':=es.set i (p.1,xv)) (ents':=ents.set i { en with val:=ev tmps ds x }) (cl':=cl) hb (.inl hes) g3 hlt (g2.set (g2.key i p en hp hen) hxv) (fun _=>hbn.set hen rfl);rw[hes] at f1 f2;refine ⟨_,_,_,e6,_,ρ,_,.inr ⟨?_,rfl⟩,VR.undef,f1,f2,Nat.le_refl _⟩;have hs:ev tmps ds s=.int kd (i:Int):=hsv.inv_int;have hidx:=z8 hbn hen
 have:(Instr.entryStore t (ev tmps ds m) (ev tmps ds s) (ev tmps ds x)).run P w=.ok () (w.putObj b (.map ⟨ents.set i { en with val:=ev tmps ds x }⟩ cl)):=by
  rw[hm,hs];simp only[Instr.entryStore,Sem.run_bind,hget,Result.andThen_ok,asInt,asIntOf,Sem.run_pure,hidx,dJ];rw[nV _ _ _ _ hen]
 simp [execOp,this]
end
end Go.CM
end
noncomputable section
namespace Go.CM
open Go.AM (oneC overwrite aP aN run_underlying run_sizeOf run_typeInfo aQ aZ bC aL aR cD bytes_beq bW cT cell_of_heap fX)
variable {P:Program} {w0 w:World} {ρ:Rho} {h:T O} {nx:Q} {tm:T V} {tmps:Array Value} {ds:List Deferred} {r v:V}
def jI (s:List UInt8):List Value:=s.map fun b=>.int .u8 b.toNat
theorem ny:∀ {l n:Nat} {s:List UInt8} {k:List V→Res},s.length=l→packL s=n→byL l n k=.ok r→∃ cs,k cs=.ok r∧VRs ρ cs (jI s)∧∀ c∈cs,isCell c=true
 |0,n,[],k,hl,hp,e=>⟨[],e,.nil,by simp⟩
 |0,n,_::_,k,hl,hp,e=>by simp at hl
 |l+1,n,[],k,hl,hp,e=>by simp at hl
 |l+1,n,b::s,k,hl,hp,e=>by
  simp only[byL,aF] at e;have hb:b.toNat < 256:=b.toNat_lt;simp only[packL] at hp;have h1:n % 256=b.toNat:=by omega
  have h2:n / 256=packL s:=by omega
  rw[h1,h2] at e;obtain ⟨cs,g1,g2,g3⟩:=ny (s:=s) (by simpa using hl) rfl e
  exact ⟨_,g1,.cons (.int _ _) g2,fun c hc=>by
   rcases List.mem_cons.1 hc with rfl|hc
   ·rfl
   ·exact g3 c hc⟩
theorem mV (H:HR P w0 ρ h nx w) {sz:Nat} {v:V} {u:Value} {k:Nat→List V→Res} (hv:VR ρ v u) (e:iI sz v h k=.ok r) :
  ∃ n cs us,k n cs=.ok r∧us.length=n * sz∧VRs ρ cs us∧(∀ c∈cs,isCell c=true)∧(Builtin.lenOf u).run P w=.ok n w∧(∀ w1:World,w1.heap=w.heap→(Builtin.firstCells sz n u).run P w1=.ok ⟨us⟩ w1)∧((∃ s,u=.string s)∨∃ a cap,u=.slice a n cap):=by
 have sl:∀ {o:Q} {off len cap b N:Nat},ρ o=some (b,N)→u=.slice (some ⟨b,off,none⟩) len cap→(match len with|0=>k 0 []|len=>lP h o off (len * sz) fun l=>k len l)=.ok r →
   ∃ n cs us,k n cs=.ok r∧us.length=n * sz∧VRs ρ cs us∧(∀ c∈cs,isCell c=true)∧(Builtin.lenOf u).run P w=.ok n w∧(∀ w1:World,w1.heap=w.heap→(Builtin.firstCells sz n u).run P w1=.ok ⟨us⟩ w1)∧((∃ s,u=.string s)∨∃ a cap,u=.slice a n cap):=fun {o off len cap b N} hb hu e=>by
  subst hu
  split at e
  ·exact ⟨0,[],[],e,by simp,.nil,by simp,by simp [Builtin.lenOf],fun w1 _=>by simp [Builtin.firstCells,loadCells,loadCellsFrom],.inr ⟨_,_,rfl⟩⟩
  ·obtain ⟨n,t,h1,h2,e1⟩:=bw e
   obtain ⟨us,g1,g2,g3,g4⟩:=H.cells hb h1 h2;exact ⟨_,_,us,e1,g1,g3,g4,by simp [Builtin.lenOf],fun w1 hw1=>cT g1 fun p x hx=>(AM.cell_congr (by rw[hw1]) _).trans (g2 p x hx),.inr ⟨_,_,rfl⟩⟩
 cases hv with
 |nils=>exact ⟨0,[],[],e,by simp,.nil,by simp,by simp [Builtin.lenOf],fun w1 _=>by simp [Builtin.firstCells],.inr ⟨_,_,rfl⟩⟩
 |sl o off len cap b N hb hc=>exact sl hb rfl e
 |su o off len sz' b N cap hb hc hr=>exact sl hb rfl e
 |se a cap=>exact ⟨0,[],[],e,by simp,.nil,by simp,by simp [Builtin.lenOf],fun w1 _=>by simp [Builtin.firstCells,loadCells,loadCellsFrom],.inr ⟨_,_,rfl⟩⟩
 |str l n s hl hn =>
  simp only[iI] at e;obtain ⟨hg,e1⟩:=bR e;have hs:=Nat.eq_of_beq_eq_true hg;subst hs;obtain ⟨cs,g1,g2,g3⟩:=ny (ρ:=ρ) hl hn e1;refine ⟨l,cs,jI s,g1,by simp [jI,hl],g2,g3,?_,fun w1 _=>?_,.inl ⟨_,rfl⟩⟩
  ·have:(⟨⟨s⟩⟩:ByteArray).size=l:=hl
   simp [Builtin.lenOf,this]
  ·have hex:(⟨⟨s⟩⟩:ByteArray).extract 0 l=⟨⟨s⟩⟩:=by
    have:=ByteArray.extract_mk s 0 l
    rw[show (⟨⟨s⟩⟩:ByteArray)=ByteArray.mk s.toArray from rfl,this];simp [←hl]
   simp only[Builtin.firstCells,hex]
   have:(⟨s⟩:Array UInt8).map (fun b=>Value.int .u8 b.toNat)=⟨jI s⟩:=by apply Array.ext';simp [jI]
   rw[this];rfl
 |_=>cases e
section model
variable {ts:Array TypeId} {ty t1 t2 e:TypeId} {size sLen sCap n:Nat} {x:Value} {us:List Value}
theorem kZ {base:Option Addr} {w':World} (h1:ts[0]?=some t1) (h2:ts[1]?=some t2) (hu1:P.underlying t1=some (.slice e)) (hu2:∃ d,P.underlying t2=some d∧∀ k,d≠.int k) (hsz:aZ P e=some size)
  (hl:(Builtin.lenOf x).run P w=.ok n w) (hf:(Builtin.firstCells size n x).run P w=.ok ⟨us⟩ w) (hfit:sLen+n≤sCap)
  (hst:match base with|some a=>(storeCells (a.add (sLen * size)) us).run P w=.ok () w'|none=>w'=w) :
  (Builtin.append_ ts ty #[.slice base sLen sCap,x]).run P w=.ok (.slice base (sLen+n) sCap) w':=by
 obtain ⟨d,hu2,hd⟩:=hu2;have h0:(#[.slice base sLen sCap,x]:Array Value)[0]?=some (.slice base sLen sCap):=rfl;have h0':(#[.slice base sLen sCap,x]:Array Value)[1]?=some x:=rfl;simp only[Builtin.append_,Sem.run_bind,h1,h2,h0,h0',run_underlying hu1,run_underlying hu2,run_sizeOf hsz,Result.andThen_ok,Sem.run_pure];cases d <;> first|exact absurd rfl (hd _)|skip
 all_goals
  cases base with
  |none=>subst hst;simp [hl,hf,hfit]
  |some a=>simp [hl,hf,hfit,hst]
theorem uL {base:Option Addr} {z:Value} {old:List Value} (h1:ts[0]?=some t1) (h2:ts[1]?=some t2) (hu1:P.underlying t1=some (.slice e)) (hu2:∃ d,P.underlying t2=some d∧∀ k,d≠.int k) (hsz:aZ P e=some size)
  (hz:(P.info? e).bind (·.zero)=some z) (hzs:z.cells.size=size) (hby:aL P e≤16384) (hby0:0 < aL P e) (hroom:sLen+n≤4294967296)
  (hl:(Builtin.lenOf x).run P w=.ok n w) (hf:∀ w1:World,w1.heap=w.heap→(Builtin.firstCells size n x).run P w1=.ok ⟨us⟩ w1) (hfo:∀ w1:World,w1.heap=w.heap→(Builtin.firstCells size sLen (.slice base sLen sCap)).run P w1=.ok ⟨old⟩ w1)
  (hol:old.length=sLen * size) (hul:us.length=n * size) (hfit:¬ sLen+n≤sCap) :
  ∃ newCap rest,sLen+n≤newCap∧(old++us++rest).length=newCap * size ∧
   (Builtin.append_ ts ty #[.slice base sLen sCap,x]).run P w=.ok (.slice (some ⟨w.heap.size,0,none⟩) (sLen+n) newCap) (w.drew.alloc (.cells ⟨old++us++rest⟩ e)):=by
 obtain ⟨d,hu2,hd⟩:=hu2;obtain ⟨ti,hti,hzz⟩:=cS hz;have hbt:aL P e=ti.bytes:=by simp [aL,hti]
 have hgrow:=AM.nextslicecap_le (need:=sLen+n) (c:=sCap) (by omega)
 have hnl:¬ Builtin.nextslicecap (sLen+n) sCap * ti.bytes > 2 ^ 48:=by
  have h1:Builtin.nextslicecap (sLen+n) sCap * ti.bytes≤(2 * (sLen+n)+512) * 16384:=Nat.mul_le_mul hgrow (by rw[←hbt];exact hby);omega
 have hnb:¬ ti.bytes=0:=by rw[←hbt];omega
 obtain ⟨newCap,hnc,hcut⟩:∃ newCap,sLen+n≤newCap∧(Question.appendCap (sLen+n) sCap e).cut (w.tape w.drawn (Question.appendCap (sLen+n) sCap e))=newCap :=
  ⟨_,by simp only[Question.cut];omega,rfl⟩
 obtain ⟨w1,hw1⟩:∃ w1,w1=w.drew:=⟨_,rfl⟩
 have hw1h:w1.heap=w.heap:=by rw[hw1];rfl
 have hfoq:(Question.appendCap (sLen+n) sCap e).forced=false:=rfl;refine ⟨newCap,(Builtin.zeroCells z.cells (newCap - (sLen+n))).toList,hnc,?_,?_⟩
 ·have e1:newCap * size=(sLen+n) * size+(newCap - (sLen+n)) * size:=by rw[←Nat.add_mul];congr 1;omega
  simp only[List.length_append,hol,hul,Array.length_toList,fX,hzs];rw[e1,Nat.add_mul]
 ·have h0:(#[.slice base sLen sCap,x]:Array Value)[0]?=some (.slice base sLen sCap):=rfl
  have h0':(#[.slice base sLen sCap,x]:Array Value)[1]?=some x:=rfl;simp only[Builtin.append_,Sem.run_bind,h1,h2,h0,h0',run_underlying hu1,run_underlying hu2,run_sizeOf hsz,Result.andThen_ok,Sem.run_pure];cases d <;> first|exact absurd rfl (hd _)|skip
  all_goals
   simp [hl,hfit,run_typeInfo hti,hnb,hnl,hfoq,hcut,←hw1,hfo w1 hw1h,hf w1 hw1h,aQ hz,newRow,hw1h];congr 2;apply Array.ext';simp
end model
end Go.CM
end
