import Derived.Test.YtdkkaldimefljaaGreatDoorC06
import Derived.Laws.IdiomStrings
import Derived.Test.YtdkkaldimefljaaGreatDoorA09
set_option linter.all false
noncomputable section
namespace Go.CM
open Go.AM (oneC overwrite aP aN run_underlying run_sizeOf aQ aZ bC aL aR cD bytes_beq bW cell_of_heap)
variable {P:Program} {w0 w:World} {ρ:Rho} {h:T O} {nx:Q} {tm:T V} {tmps:Array Value} {ds:List Deferred} {r v:V}
theorem HR.make (H:HR P w0 ρ h nx w) {x:Obj} {N:Nat} {ob:O} (ho:OR P (ρ.set nx w.heap.size N) (w.alloc x) w0.heap.size ob w.heap.size N) :
  HR P w0 (ρ.set nx w.heap.size N) (h.put .dead ob nx) nx.succ (w.alloc x)∧Keep nx.nat ρ h (ρ.set nx w.heap.size N) (h.put .dead ob nx):=by
 have hq:=H.fresh nx (Nat.le_refl _);have H1:=H.pend hq ob (nx':=nx.succ) (by rw[Q.nat_succ];omega) (by rw[Q.nat_succ];omega);refine ⟨H1.born hq (by rw[Q.nat_succ];omega) (by rw[b8,if_pos rfl];exact ho),Rho.set_le hq,fun q hlt hn=>?_⟩;have hne:q≠nx:=fun e=>by subst e;omega
 exact ⟨by simp [Rho.set,hne,hn],by rw[b8,if_neg (Ne.symm hne)]⟩
theorem HR.share (H:HR P w0 ρ h nx w) {b N:Nat} {ob:O} (hb:b < w.heap.size) (ho:OR P (ρ.set nx b N) w w0.heap.size ob b N) (hs:∀ q N',ρ q=some (b,N')→Sh ob (h.ob q) q∧aAN (h.ob q)=false) :
  HR P w0 (ρ.set nx b N) (h.put .dead ob nx) nx.succ w∧Keep nx.nat ρ h (ρ.set nx b N) (h.put .dead ob nx):=by
 have hq:=H.fresh nx (Nat.le_refl _);have hle:=Rho.set_le (b:=b) (N:=N) hq
 have hsplit:∀ q b' N',ρ.set nx b N q=some (b',N')→(q=nx∧b'=b∧N'=N)∨(q≠nx∧ρ q=some (b',N')):=fun q b' N' e=>by
  unfold Rho.set at e
  split at e
  ·simp at e;exact .inl ⟨by assumption,e.1.symm,e.2.symm⟩
  ·exact .inr ⟨by assumption,e⟩
 refine ⟨⟨H.size,H.old,H.os,H.tape,H.output,fun g hg=>?_,fun q hn=>?_,fun q b' N' e=>?_,fun q b' N' e=>?_,fun q q' b' N1 N2 hne e1 e2=>?_,fun q hn=>?_⟩,hle,fun q hlt hn=>?_⟩
 ·obtain ⟨N',e⟩:=H.glob g hg;exact ⟨N',hle _ _ e⟩
 ·rw[Q.nat_succ] at hn
  unfold Rho.set;rw[if_neg (fun e=>by subst e;omega)];exact H.fresh q (by omega)
 ·rcases hsplit q b' N' e with ⟨_,rfl,_⟩|⟨_,e⟩
  ·exact hb
  ·exact H.lt q b' N' e
 ·rcases hsplit q b' N' e with ⟨rfl,rfl,rfl⟩|⟨hne,e⟩
  ·rw[b8,if_pos rfl];exact ho
  ·rw[b8,if_neg (Ne.symm hne)];exact (H.obj q b' N' e).mono hle rfl
 ·rcases hsplit q b' N1 e1 with ⟨a1,a2,a3⟩|⟨h1,f1⟩
  ·rcases hsplit q' b' N2 e2 with ⟨a4,_,_⟩|⟨h2,f2⟩
   ·exact absurd (a1.trans a4.symm) hne
   ·rw[a2] at f2
    rw[a1,b8,if_pos rfl,b8,if_neg (Ne.symm h2)];exact (hs q' N2 f2).1
  ·rcases hsplit q' b' N2 e2 with ⟨a4,a5,a6⟩|⟨h2,f2⟩
   ·rw[a5] at f1
    rw[a4,b8,if_neg (Ne.symm h1),b8,if_pos rfl];exact Sh.of_not (hs q N1 f1).2
   ·rw[b8,if_neg (Ne.symm h1),b8,if_neg (Ne.symm h2)];exact H.sep q q' b' N1 N2 hne f1 f2
 ·rw[Q.nat_succ] at hn
  rw[b8,if_neg (fun e=>by subst e;omega)];exact H.dead q (by omega)
 ·have hne:q≠nx:=fun e=>by subst e;omega
  exact ⟨by simp [Rho.set,hne,hn],by rw[b8,if_neg (Ne.symm hne)]⟩
theorem kx {b:Nat} {x:Obj} (h:w.heap[b]?=some x):w.putObj b x=w:=by
 unfold World.putObj;have hb:=Array.getElem?_eq_some_iff.1 h
 have:w.heap.setIfInBounds b x=w.heap:=by
  apply Array.ext_getElem?;intro j;by_cases hj:b=j
  ·subst hj;obtain ⟨hb1,hb2⟩:=hb;simp [hb1,hb2]
  ·simp [Array.getElem?_setIfInBounds_ne hj]
 rw[this]
theorem HR.toRo (H:HR P w0 ρ h nx w) {o:Q} {b N n flo ty:Nat} {t:T V} {anc:List Q} {ex:Bool} (ho:ρ o=some (b,N)) (hr:h.ob o=.row n t anc flo ty ex) {Vs us:List Value} {T:TypeId} {fz:Nat×Nat} (hw:w.heap[b]?=some (.cells ⟨Vs⟩ T (0,0))) (hu:n+us.length≤Vs.length∨us=[]) :
  HR P w0 ρ (h.put .dead (.ro n t) o) nx (w.putObj b (.cells ⟨overwrite Vs n us⟩ T fz))∧Keep nx.nat ρ h ρ (h.put .dead (.ro n t) o)∧∀ q N',ρ q=some (b,N')→(h.put .dead (.ro n t) o).ob q=.dead∨q=o∨∃ n' t',(h.put .dead (.ro n t) o).ob q=.ro n' t'∧q∈anc∧n'≤flo:=by
 have hO:=H.obj o b N ho;rw[hr] at hO;cases hO with
 |row _ _ _ _ _ _ _ _ vs hB hw' hN hn hf he ha hx hk =>
 rw[hw] at hw';simp at hw';obtain ⟨rfl,rfl⟩:=hw';have hblt:=(Array.getElem?_eq_some_iff.1 hw).1;have hnew:(w.putObj b (.cells ⟨overwrite Vs n us⟩ T fz)).heap[b]?=some (.cells ⟨overwrite Vs n us⟩ T fz):=World.putObj_heap_same hblt
 have hlen:(overwrite Vs n us).length=Vs.length:=by
  rcases hu with hu|rfl
  ·exact aN _ _ _ hu
  ·simp [overwrite]
 have hget:∀ i u,i < n→(overwrite Vs n us)[i]?=some u→Vs[i]?=some u:=fun i u hi hu'=>by
  rcases hu with hu|rfl
  ·rw[aP _ _ _ _ hu,if_pos hi] at hu';exact hu'
  ·simpa [overwrite] using hu'
 have hro:∀ q N' n' t',ρ q=some (b,N')→h.ob q=.ro n' t'→n'≤n→OR P ρ (w.putObj b (.cells ⟨overwrite Vs n us⟩ T fz)) w0.heap.size (.ro n' t') b N':=fun q N' n' t' hq hqo hno=>by
  have:=H.obj q b N' hq
  rw[hqo] at this;cases this with
  |ro _ _ _ _ Vs' T' fz' hw2 hn2 hx2 hc2 =>
  rw[hw] at hw2;simp at hw2;obtain ⟨rfl,rfl,_⟩:=hw2;exact .ro _ _ _ _ _ _ _ hnew (by rw[hlen];exact hn2) (fun i u hi hu'=>hx2 i u hi (hget i u (by omega) hu')) hc2
 have hoth:∀ q N',q≠o→ρ q=some (b,N')→h.ob q=.dead∨∃ n' t',h.ob q=.ro n' t'∧q∈anc∧n'≤flo:=fun q N' hne hq=>by
  have hs:=H.sep o q b N N' (Ne.symm hne) ho hq;rw[hr] at hs;exact hs
 refine ⟨H.upd ho hB ?_ (fun q hq=>.inl (by rw[b8,if_neg (Ne.symm hq)])) fun q N' hq hqb=>?_,.of fun q hq=>by rw[b8,if_neg (fun e=>by subst e;rw[ho] at hq;cases hq)],fun q N' hqb=>?_⟩
 ·rw[b8,if_pos rfl]
  exact .ro _ _ _ _ _ _ _ hnew (by rw[hlen,hN];exact hn) (fun i u hi hu'=>hx i u hi (hget i u hi hu')) hk
 ·rw[b8,if_neg (Ne.symm hq),b8,if_pos rfl]
  rcases hoth q N' hq hqb with h1|⟨n',t',h1,h2,h3⟩
  ·rw[h1];exact ⟨.dead _ _,Sh.dead _ _,rfl⟩
  ·rw[h1];exact ⟨hro q N' n' t' hqb h1 (by omega),trivial,rfl⟩
 ·by_cases hq:q=o
  ·exact .inr (.inl hq)
  ·rw[b8,if_neg (Ne.symm hq)]
   rcases hoth q N' hq hqb with h1|h1
   ·exact .inl h1
   ·exact .inr (.inr h1)
section app
variable {ts:Array TypeId} {ty t1 t2 e:TypeId} {sz:Nat} {k:V→T O→Q→Res}
def aDl (P:Program) (w0 w:World) (ρ:Rho) (h:T O) (nx:Q) (run:Result Value) (k:V→T O→Q→Res) (r:V):Prop :=
 ∃ v h' nx' w' ρ' u,k v h' nx'=.ok r∧run=.ok u w'∧VR ρ' v u∧HR P w0 ρ' h' nx' w'∧Keep nx.nat ρ h ρ' h'∧nx.nat≤nx'.nat
theorem aBC (H:HR P w0 ρ h nx w) {len m newCap:Nat} {old new:List V} {oldU us rest:List Value} {run:Result Value} (ho:VRs ρ old oldU) (hn:VRs ρ new us) (hol:oldU.length=len * sz) (hul:us.length=m * sz) (hok:∀ c∈old,isCell c=true) (hnk:∀ c∈new,isCell c=true)
  (hcap:len+m≤newCap) (hlen:(oldU++us++rest).length=newCap * sz) (hrun:run=.ok (.slice (some ⟨w.heap.size,0,none⟩) (len+m) newCap) (w.drew.alloc (.cells ⟨oldU++us++rest⟩ e))) (hk:nH e sz len m old new h nx k=.ok r) :
  aDl P w0 w ρ h nx run k r:=by
 unfold nH at hk;obtain ⟨_,hk⟩:=bR hk;rw[dF,dF,aF,aF,cK,dO] at hk;have hoo:old.length=len * sz:=by rw[ho.1,hol]
 have hnn:new.length=m * sz:=by rw[hn.1,hul]
 have hputs:dE new (len * sz) (dE old 0 .nil)=dE (old++new) 0 .nil:=by rw[kM,Nat.zero_add,hoo]
 rw[hputs] at hk;have Hd:HR P w0 ρ h nx w.drew:=H.drawn _;have hq:=H.fresh nx (Nat.le_refl _);have hle:=Rho.set_le (b:=w.heap.size) (N:=newCap * sz) hq;have hall:=(ho.append hn).mono hle;have hTL:=TL.puts (old++new) .nil;have hsz:(old++new).length=(len+m) * sz:=by rw[List.length_append,hoo,hnn,Nat.add_mul]
 have hcell:∀ c∈old++new,isCell c=true:=fun c hc=>by
  rcases List.mem_append.1 hc with h1|h1
  ·exact hok c h1
  ·exact hnk c h1
 obtain ⟨f1,f2⟩:=Hd.make (x:=.cells ⟨oldU++us++rest⟩ e) (N:=newCap * sz) (ob:=.row ((len+m) * sz) (dE (old++new) 0 .nil) [] 0 e false) (by
  refine .row _ _ _ _ _ _ _ _ _ H.size (AM.heap_alloc_new (w:=w.drew) _) hlen (Nat.mul_le_mul_right _ hcap) (Nat.zero_le _) (fun h=>by cases h) (fun a ha=>by cases ha) (fun i u hi hu=>?_) fun i hi=>?_
  ·have hi':i < (old++new).length:=by rw[hsz];exact hi
   rw[hTL i (old++new)[i] (by simp [hi'])];refine hall.2 i _ u (by simp [hi']) ?_;rw[List.getElem?_append_left (by rw[←hall.1];exact hi')] at hu;exact hu
  ·have hi':i < (old++new).length:=by rw[hsz];exact hi
   rw[hTL i (old++new)[i] (by simp [hi'])];exact hcell _ (List.getElem_mem hi'))
 exact ⟨_,_,_,_,_,_,hk,hrun,.su _ _ _ _ _ _ _ Rho.set_same hcap (by rw[Nat.zero_add]),f1,f2,by rw[Q.nat_succ];omega⟩
theorem aG4 (H:HR P w0 ρ h nx w) (h1:ts[0]?=some t1) (h2:ts[1]?=some t2) (hu1:P.underlying t1=some (.slice e)) (hu2:∃ d,P.underlying t2=some d∧∀ k,d≠.int k) (hsz:aZ P e=some sz) (hpos:0 < sz)
  {z:Value} (hz:(P.info? e).bind (·.zero)=some z) (hzs:z.cells.size=sz) (hby:aL P e≤16384) (hby0:0 < aL P e) {a:V} {ua x:Value} (ha:VR ρ a ua) {m:Nat} {new:List V} {us:List Value} (hn:VRs ρ new us) (hul:us.length=m * sz) (hnk:∀ c∈new,isCell c=true)
  (hl:(Builtin.lenOf x).run P w=.ok m w) (hf:∀ w1:World,w1.heap=w.heap→(Builtin.firstCells sz m x).run P w1=.ok ⟨us⟩ w1) (hk:apK e sz a m new h nx k=.ok r) :
  aDl P w0 w ρ h nx ((Builtin.append_ ts ty #[ua,x]).run P w) k r:=by
 have hone:=hn.oneC hnk;have h0:m=0→us=[]:=fun e=>by subst e;simpa using hul
 have new_of:∀ {len:Nat} {base:Option Addr} {cap:Nat} {old:List V} {oldU:List Value},VRs ρ old oldU→oldU.length=len * sz→(∀ c∈old,isCell c=true)→(∀ w1:World,w1.heap=w.heap→(Builtin.firstCells sz len (.slice base len cap)).run P w1=.ok ⟨oldU⟩ w1)→¬ len+m≤cap →
   nH e sz len m old new h nx k=.ok r→aDl P w0 w ρ h nx ((Builtin.append_ ts ty #[.slice base len cap,x]).run P w) k r:=fun {len base cap old oldU} ho hol hok hfo hfit hg=>by
  have hroom:len+m≤4294967296:=by
   unfold nH at hg;exact Nat.le_of_ble_eq_true (bR hg).1
  obtain ⟨newCap,rest,g1,g2,g3⟩:=uL (ty:=ty) h1 h2 hu1 hu2 hsz hz hzs hby hby0 hroom hl hf hfo hol hul hfit;exact aBC H ho hn hol hul hok hnk g1 g2 g3 hg
 have fit_same:∀ {len cap:Nat} {base:Option Addr} {v:V},m=0→len≤cap→VR ρ v (.slice base len cap)→k v h nx=.ok r→aDl P w0 w ρ h nx ((Builtin.append_ ts ty #[.slice base len cap,x]).run P w) k r:=fun {len cap base v} hm hc hv hk2=>by
  have hus:=h0 hm;subst hm;refine ⟨_,_,_,w,ρ,_,hk2,kZ (ty:=ty) h1 h2 hu1 hu2 hsz hl (hf w rfl) (by omega) ?_,hv,H,Keep.refl _ _ _,Nat.le_refl _⟩;cases base with
  |none=>rfl
  |some a=>simp [hus,storeCells]
 cases ha with
 |nils =>
  simp only[apK] at hk
  split at hk
  ·exact fit_same rfl (Nat.le_refl _) .nils hk
  ·rename_i hm
   exact new_of (old:=[]) (oldU:=[]) .nil (by simp) (by simp) (fun w1 _=>by simp [Builtin.firstCells]) (fun hle=>hm (by omega)) hk
 |sl o off len cap b N hb hc =>
  simp only[apK] at hk
  split at hk
  ·rename_i hle
   have hle:=Nat.le_of_ble_eq_true hle
   split at hk
   ·exact fit_same rfl hc (.sl _ _ _ _ _ _ hb hc) hk
   ·obtain ⟨h',Vs,T,f1,f2,f3,f4,f5⟩:=bk H hb hn hnk hk
    rw[aF] at f1;have hst:=bW (P:=P) (T:=T) us (off+len * sz) 0 w Vs f2 hone (by simpa using f3);rw[Nat.add_zero] at hst;exact ⟨_,_,_,_,ρ,_,f1,kZ (ty:=ty) h1 h2 hu1 hu2 hsz hl (hf w rfl) hle (by simp only[cD];exact hst),.sl _ _ _ _ _ _ hb hle,f4,f5,Nat.le_refl _⟩
  ·rename_i hle
   have hle:¬ len+m≤cap:=fun h=>by rw[Nat.ble_eq_true_of_le h] at hle;cases hle
   obtain ⟨n',cs,oldU,g1,g2,g3,g4,g5,g6,g7⟩:=mV H (.sl o off len cap b N hb hc) hk;have hn':n'=len:=by simpa [Builtin.lenOf] using g5.symm
   subst hn';exact new_of g3 g2 g4 g6 hle g1
 |su o off len sz' b N cap hb hc hr =>
  simp only[apK] at hk;obtain ⟨hg,hk⟩:=bR hk;have hss:=Nat.eq_of_beq_eq_true hg
  split at hk
  ·refine fit_same rfl hc ?_ hk
   rw[hss];exact .su _ _ _ _ _ _ _ hb hc hr
  ·rw[bS] at hk
   rw[←hss] at hr
   split at hk
   ·rename_i n t anc flo ty' ex hob
    have hO:=H.obj o b N hb;rw[hob] at hO;cases hO with
    |row _ _ _ _ _ _ _ _ Vs hB hw hN hnN hf' he ha hx hkk =>
    split at hk
    ·rename_i hle
     have hle:=Nat.le_of_ble_eq_true hle
     have hfit:len+m≤cap:=by
      have:(len+m) * sz≤cap * sz:=by omega
      exact Nat.le_of_mul_le_mul_right this hpos
     obtain ⟨h',Vs',T,f1,f2,f3,f4,f5⟩:=bk H hb hn hnk hk;rw[aF] at f1;have hst:=bW (P:=P) (T:=T) us (off+len * sz) 0 w Vs' f2 hone (by simpa using f3);rw[Nat.add_zero] at hst;exact ⟨_,_,_,_,ρ,_,f1,kZ (ty:=ty) h1 h2 hu1 hu2 hsz hl (hf w rfl) hfit (by simp only[cD];exact hst),.su _ _ _ _ _ _ _ hb hfit hr,f4,f5,Nat.le_refl _⟩
    ·obtain ⟨hg2,hk⟩:=bR hk
     simp only[Bool.and_eq_true] at hg2;obtain ⟨⟨⟨q1,q2⟩,q3⟩,q4⟩:=hg2;have q1:=Nat.eq_of_beq_eq_true q1;have q2:=Nat.eq_of_beq_eq_true q2;have q3:=Nat.eq_of_beq_eq_true q3;have q4:=Nat.le_of_ble_eq_true q4;subst q2;rw[Nat.zero_add] at q1 hr;rw[dF,aF,aF,cK,cK,dO] at hk;have hq:=H.fresh nx (Nat.le_refl _);have hno:o≠nx:=fun e=>by subst e;rw[hb] at hq;cases hq
     have hnl:new.length=m * sz:=by rw[hn.1,hul]
     have row:∀ {ρ':Rho} {w':World} {b' N':Nat} {L:List Value},ρ.le ρ'→w0.heap.size≤b'→w'.heap[b']?=some (.cells ⟨L⟩ ty' (0,0))→L.length=N'→n+m * sz≤N'→(∀ i u,i < n→L[i]?=some u→VR ρ (t.at i) u)→(∀ i,i < m * sz→L[n+i]?=us[i]?) →
       OR P ρ' w' w0.heap.size (.row (n+m * sz) (dE new n t) (o::anc) n ty' false) b' N':=fun {ρ' w' b' N' L} hle hB' hw' hL hN' hold hnew=>by
      refine .row _ _ _ _ _ _ _ _ L hB' hw' hL hN' (by omega) (fun h=>by cases h) (fun a ha'=>?_) (fun i u hi hu=>?_) fun i hi=>?_
      ·rcases List.mem_cons.1 ha' with rfl|ha'
       ·rw[hle _ _ hb];simp
       ·cases e:ρ a with
        |none=>exact absurd e (ha a ha')
        |some y=>rw[hle a y e];simp
      ·rw[iA]
       by_cases hin:i < n
       ·rw[if_neg (by omega)];exact (hold i u hin hu).mono hle
       ·have hj:i - n < m * sz:=by omega
        rw[if_pos ⟨by omega,by omega⟩];rw[show i=n+(i - n) by omega,hnew _ hj] at hu;refine (hn.2 (i - n) _ u ?_ hu).mono hle;simp [List.getD_eq_getElem?_getD,hnl,hj]
      ·rw[iA]
       split
       ·refine hnk _ ?_
        have hj:i - n < new.length:=by omega
        simp [List.getD_eq_getElem?_getD,hj]
       ·exact hkk i (by omega)
     by_cases hfit:len+m≤cap
     ·have hmul:(len+m) * sz≤cap * sz:=Nat.mul_le_mul_right _ hfit
      have hmul2:(len+m) * sz=len * sz+m * sz:=Nat.add_mul _ _ _;have hle2:n+us.length≤Vs.length:=by rw[hul,hN];omega
      obtain ⟨f1,f2,f3⟩:=H.toRo (fz:=(0,0)) hb hob hw (.inl hle2);have hst:=bW (P:=P) (T:=ty') us (len * sz) 0 w Vs hw hone (by rw[hul,hN];omega);rw[Nat.add_zero,q1] at hst;have hblt:=(Array.getElem?_eq_some_iff.1 hw).1;have hlw:(overwrite Vs n us).length=N:=by rw[aN _ _ _ hle2];exact hN
      obtain ⟨s1,s2⟩:=f1.share (b:=b) (N:=N) (ob:=.row (n+m * sz) (dE new n t) (o::anc) n ty' false) (by simpa using hblt)
       (row (Rho.set_le hq) hB (World.putObj_heap_same hblt) hlw (by omega) (fun i u hi hu=>by
        rw[aP _ _ _ _ hle2,if_pos hi] at hu;exact hx i u hi hu) (fun i hi=>by
        rw[aP _ _ _ _ hle2,if_neg (by omega),if_pos (by omega)];congr 1;omega))
       (fun q N' hqb=>by
        rcases f3 q N' hqb with h3|rfl|⟨n',t',h3,h4,h5⟩
        ·rw[h3];exact ⟨Sh.dead _ _,rfl⟩
        ·rw[b8,if_pos rfl];exact ⟨.inr ⟨n,t,rfl,by simp,Nat.le_refl _⟩,rfl⟩
        ·rw[h3];exact ⟨.inr ⟨n',t',rfl,by simp [h4],by omega⟩,rfl⟩)
      refine ⟨_,_,_,_,_,_,hk,kZ (ty:=ty) h1 h2 hu1 hu2 hsz hl (hf w rfl) hfit (by simp only[cD,Nat.zero_add,q1];exact hst),.su _ _ _ _ _ _ _ Rho.set_same hfit (by omega),s1,f2.trans s2,by rw[Q.nat_succ];omega⟩
     ·obtain ⟨n',cs,oldU,g1,g2,g3,g4,g5,g6,g7⟩:=mV (k:=fun _ l=>.ok (.agg l)) H (sz:=sz) (.su o 0 len sz b N cap hb hc (by omega)) (r:=.agg (lH (len * sz) 0 t)) (by
       simp only[iI];cases len with
       |zero=>simp [lH]
       |succ len =>
        simp only[lP,bS,hob,xQ,pH];rw[show Nat.ble (0+(len+1) * sz) n=true from Nat.ble_eq_true_of_le (by omega)];rfl)
      have hcs:cs=lH (len * sz) 0 t:=by simpa using g1
      have hn':n'=len:=by simpa [Builtin.lenOf] using g5.symm
      subst hn';subst hcs;obtain ⟨newCap,rest,c1,c2,c3⟩:=uL (ty:=ty) h1 h2 hu1 hu2 hsz hz hzs hby hby0 q4 hl hf g6 g2 hul hfit;have Hd:HR P w0 ρ h nx w.drew:=H.drawn _;obtain ⟨f1,f2,f3⟩:=Hd.toRo (us:=[]) (fz:=(0,0)) hb hob (show w.drew.heap[b]?=_ from hw) (.inr rfl);have hov:overwrite Vs n []=Vs:=by simp [overwrite]
      rw[hov,kx (w:=w.drew) (show w.drew.heap[b]?=_ from hw)] at f1;have hmm:newCap * sz=newCap * sz:=rfl;have hge:(n'+m) * sz≤newCap * sz:=Nat.mul_le_mul_right _ c1;have hmul2:(n'+m) * sz=n' * sz+m * sz:=Nat.add_mul _ _ _
      obtain ⟨s1,s2⟩:=f1.make (x:=.cells ⟨oldU++us++rest⟩ e) (N:=newCap * sz) (ob:=.row (n+m * sz) (dE new n t) (o::anc) n ty' false)
       (row (Rho.set_le hq) H.size (by rw[←q3];exact AM.heap_alloc_new (w:=w.drew) _) c2 (by omega) (fun i u hi hu=>by
        rw[List.append_assoc,List.getElem?_append_left (by omega)] at hu;exact g3.2 i _ u (by rw[qE (by omega),Nat.zero_add]) hu) (fun i hi=>by
        rw[List.append_assoc,List.getElem?_append_right (by omega),List.getElem?_append_left (by omega)];congr 1;omega))
      exact ⟨_,_,_,_,_,_,hk,c3,.su _ _ _ _ _ _ _ Rho.set_same c1 (by omega),s1,f2.trans s2,by rw[Q.nat_succ];omega⟩
   ·cases hk
 |_=>cases hk
end app
end Go.CM
end
noncomputable section
namespace Go.CM
open Go.AM (oneC overwrite aP aN run_underlying run_sizeOf aQ aZ bC aL aR cD bytes_beq bW cell_of_heap)
variable {P:Program} {w0 w:World} {ρ:Rho} {h:T O} {nx:Q} {tm:T V} {tmps:Array Value} {ds:List Deferred} {r v:V}
variable {dst:Option Nat} {ty:TypeId} {pos:String} {aft:Array Edge} {gd':Option (Nat×Bool)} {k:V→T O→Q→Res}
theorem aMF (H:HR P w0 ρ h nx w) {x y:Operand} {t u e:TypeId} {sz:Nat} {z:List V} {a:Array Operand} {ts:Array TypeId} (ha:a.toList=[x,y]) (hts:ts.toList=[t,u]) (he:P.underlying t=some (.slice e)) (hu:∃ d,P.underlying u=some d∧∀ k,d≠.int k)
  (hs:aZ P e=some sz) (hz:lE P e=some z) (hpos:0 < sz) (hby:aL P e≤16384) (hby0:0 < aL P e) (hT:XR ρ tm tmps (Op.operands (.call ⟨.builtin .append,a,ts⟩)).toList) (e:wK (.ap e sz (aD P x) (aD P y)) tm h nx k=.ok r) :
  ∃ v h' nx',k v h' nx'=.ok r∧WG P w0 w ρ tmps ds ⟨dst,.call ⟨.builtin .append,a,ts⟩,ty,pos,aft,gd'⟩ h nx v h' nx':=by
 obtain ⟨a⟩:=a;obtain ⟨ts⟩:=ts;simp only at ha hts;subst ha;subst hts;simp only[wK] at e;obtain ⟨c,e1,hc⟩:=opd (ds:=ds) (o:=⟨dst,.call ⟨.builtin .append,#[x,y],#[t,u]⟩,ty,pos,aft,gd'⟩) H hT (by simp [Op.operands,Call.operands]) e;obtain ⟨d,e2,hd⟩:=opd (ds:=ds) (o:=⟨dst,.call ⟨.builtin .append,#[x,y],#[t,u]⟩,ty,pos,aft,gd'⟩) H hT (by simp [Op.operands,Call.operands]) e1;obtain ⟨m,cs,us,e3,g1,g2,g3,g4,g5,_⟩:=mV H hd e2;obtain ⟨_,e4⟩:=bR e3;obtain ⟨zv,z1,z2,z3,z4,z5⟩:=l7 (ρ:=ρ) hz
 have hzs:zv.cells.size=sz:=by
  rw[hs] at z2
  have:=z3.1
  simp at this z2;omega
 obtain ⟨v,h',nx',w',ρ',uu,f1,f2,f3,f4,f5,f6⟩:=aG4 (ts:=#[t,u]) (ty:=ty) H (t1:=t) (t2:=u) rfl rfl he hu hs hpos z1 hzs hby hby0 hc g2 g1 g3 g4 g5 e4;refine ⟨v,h',nx',f1,w',ρ',uu,.inl ?_,f3,f4,f5,f6⟩;simp [execOp,resolve,invoke,builtin];simp [ev] at f2;simp [f2]
theorem aNz (H:HR P w0 ρ h nx w) {x y:Operand} {t e:TypeId} {sz:Nat} {a:Array Operand} {ts:Array TypeId} (ha:a.toList=[x,y]) (hts:ts[0]?=some t) (he:P.underlying t=some (.slice e)) (hs:aZ P e=some sz)
  (hT:XR ρ tm tmps (Op.operands (.call ⟨.builtin .copy,a,ts⟩)).toList) (e:wK (.cp sz (aD P x) (aD P y)) tm h nx k=.ok r) :
  ∃ v h' nx',k v h' nx'=.ok r∧WG P w0 w ρ tmps ds ⟨dst,.call ⟨.builtin .copy,a,ts⟩,ty,pos,aft,gd'⟩ h nx v h' nx':=by
 obtain ⟨a⟩:=a;simp only at ha;subst ha;simp only[wK] at e;obtain ⟨c,e1,hc⟩:=opd (ds:=ds) (o:=⟨dst,.call ⟨.builtin .copy,#[x,y],ts⟩,ty,pos,aft,gd'⟩) H hT (by simp [Op.operands,Call.operands]) e;obtain ⟨d,e2,hd⟩:=opd (ds:=ds) (o:=⟨dst,.call ⟨.builtin .copy,#[x,y],ts⟩,ty,pos,aft,gd'⟩) H hT (by simp [Op.operands,Call.operands]) e1;obtain ⟨a0,n,cap,hv,e3,_⟩:=eo hc e2;obtain ⟨m,cs,us,e4,g1,g2,g3,g4,g5,_⟩:=mV H hd e3;obtain ⟨hg,e5⟩:=bR e4;have hnm:=Nat.eq_of_beq_eq_true hg;subst hnm;have hmin:Nat.min n n=n:=Nat.min_self n
 have fin:∀ {o:Q} {off b N:Nat},ρ o=some (b,N)→ev tmps ds x=.slice (some ⟨b,off,none⟩) n cap→wrK o off cs h (fun h'=>k (.int .i64 (.ofNat n)) h' nx)=.ok r →
   ∃ v h' nx',k v h' nx'=.ok r∧WG P w0 w ρ tmps ds ⟨dst,.call ⟨.builtin .copy,#[x,y],ts⟩,ty,pos,aft,gd'⟩ h nx v h' nx':=fun {o off b N} hb hv hw=>by
  obtain ⟨h',Vs,T,f1,f2,f3,f4,f5⟩:=bk H hb g2 g3 hw;have hst:=bW (P:=P) (T:=T) us off 0 w Vs f2 (g2.oneC g3) (by simpa using f3);rw[Nat.add_zero] at hst;refine ⟨_,_,_,f1,_,ρ,.int .i64 n,.inl ?_,.int _ _,f4,f5,Nat.le_refl _⟩
  have hrun:(Builtin.copy_ ts ty #[ev tmps ds x,ev tmps ds y]).run P w=.ok (.int .i64 n) (w.putObj b (.cells ⟨overwrite Vs off us⟩ T (0,0))):=by
   rw[hv];generalize hgy:ev tmps ds y=uy at g4 g5;have h0:(#[Value.slice (some ⟨b,off,none⟩) n cap,uy]:Array Value)[0]?=some (.slice (some ⟨b,off,none⟩) n cap):=rfl;have h0':(#[Value.slice (some ⟨b,off,none⟩) n cap,uy]:Array Value)[1]?=some uy:=rfl;simp only[Builtin.copy_,Sem.run_bind,hts,h0,h0',run_underlying he,Result.andThen_ok,Sem.run_pure,g4,hmin,run_sizeOf hs,g5 w rfl,hst];rfl
  simp [execOp,resolve,invoke,builtin];simp [ev] at hrun;simp [hrun]
 cases c <;> simp only at e5 <;> first|cases e5|skip
 ·obtain ⟨b,N,cap',hx,hb,_⟩:=hc.inv_sl (.inl ⟨_,rfl⟩)
  rw[hv] at hx;simp at hx;exact fin hb (by rw[hv];simp [hx]) e5
 ·obtain ⟨b,N,cap',hx,hb,_⟩:=hc.inv_sl (.inr ⟨_,rfl⟩)
  rw[hv] at hx;simp at hx;exact fin hb (by rw[hv];simp [hx]) e5
theorem aLB (H:HR P w0 ρ h nx w) {s d e:TypeId} {x:Operand} (hs:P.underlying s=some .string) (hd:P.underlying d=some (.slice e)) (he:P.underlying e=some (.int .u8)) (hT:XR ρ tm tmps (Op.operands (.convert s d x)).toList) (e':wK (.sb (aD P x)) tm h nx k=.ok r) :
  ∃ v h' nx',k v h' nx'=.ok r∧WG P w0 w ρ tmps ds ⟨dst,.convert s d x,ty,pos,aft,gd'⟩ h nx v h' nx':=by
 simp only[wK] at e';obtain ⟨c,e1,hc⟩:=opd (ds:=ds) (o:=⟨dst,.convert s d x,ty,pos,aft,gd'⟩) H hT (by simp [Op.operands]) e';obtain ⟨l,n,hn,e2⟩:=oG e1;subst hn;obtain ⟨sl,hv,hl,hp⟩:=hc.inv_str;obtain ⟨cs,e3,g2,g3⟩:=ny (ρ:=ρ) hl hp e2;rw[dF,cK,dO] at e3;have hrun:=run_bytes_of_string (P:=P) w s d e ⟨⟨sl⟩⟩ hs hd he;have hsz:(⟨⟨sl⟩⟩:ByteArray).size=l:=hl;rw[hsz] at hrun;generalize hcap:grownCap w l 0 e=cap at hrun;have hge:l≤cap:=by rw[←hcap];exact grownCap_ge _ _ _ _
 have hbl:(bytesRow ⟨⟨sl⟩⟩ cap).toList.length=cap:=by simp [bytesRow,hsz];omega
 have Hd:HR P w0 ρ h nx w.drew:=H.drawn _;have hcl:cs.length=l:=by rw[g2.1];simp [jI,hl]
 have hq:=H.fresh nx (Nat.le_refl _)
 obtain ⟨f1,f2⟩:=Hd.make (x:=.cells (bytesRow ⟨⟨sl⟩⟩ cap) e ((bytesRow ⟨⟨sl⟩⟩ cap).size,(bytesRow ⟨⟨sl⟩⟩ cap).size+1)) (N:=cap) (ob:=.ro l (dE cs 0 .nil)) (by
  refine .ro _ _ _ _ (bytesRow ⟨⟨sl⟩⟩ cap).toList _ _ (AM.heap_alloc_new (w:=w.drew) _) (by rw[hbl];exact hge) (fun i u hi hu=>?_) fun i hi=>?_
  ·rw[TL.puts cs .nil i cs[i] (by simp [hcl,hi])]
   refine (g2.mono (Rho.set_le hq)).2 i _ u (by simp [hcl,hi]) ?_;have hi':i < sl.length:=by omega
   have h2:=bytesRow_at ⟨⟨sl⟩⟩ cap i (by simpa using hi');rw[Array.getElem?_toList,h2] at hu;simp at hu;subst hu;simp [jI,hi']
  ·rw[TL.puts cs .nil i cs[i] (by simp [hcl,hi])]
   exact g3 _ (List.getElem_mem _))
 refine ⟨_,_,_,e3,_,_,.slice (some ⟨w.heap.size,0,none⟩) l cap,.inl ?_,.su _ _ _ _ _ _ _ Rho.set_same hge (by omega),f1,f2,by rw[Q.nat_succ];omega⟩;simp [execOp,hv,hrun]
theorem aCf:∀ {cs:List V} {us:List Value} {k:Nat→Res},VRs ρ cs us→pkK cs k=.ok r→∃ s:List UInt8,us=jI s∧k (packL s)=.ok r
 |[],us,k,hv,e=>⟨[],hv.inv_nil,e⟩
 |c::cs,us,k,hv,e=>by
  obtain ⟨u,us',rfl,h1,h2⟩:=hv.inv_cons;simp only[pkK] at e
  split at e
  ·rename_i c'
   obtain ⟨hg,e1⟩:=bR e;obtain ⟨s,g1,g2⟩:=aCf h2 e1;rw[aF] at g2;have hlt:=cZ hg;refine ⟨UInt8.ofNat c'::s,?_,?_⟩
   ·rw[h1.inv_int,g1]
    simp [jI];omega
   ·simp only[packL]
    have:(UInt8.ofNat c').toNat=c':=by simp;omega
    rw[this];exact g2
  ·cases e
theorem xj {b n:Nat} {Vs:List Value} {T:TypeId} (hw:w.heap[b]?=some (.cells ⟨Vs⟩ T (0,0))) (hn:n≠0):w.freeze ⟨b,0,none⟩ n=w.putObj b (.cells ⟨Vs⟩ T (0,n)):=by
 unfold World.freeze World.putObj;rw[if_neg hn];congr 1;apply Array.ext_getElem?;intro j;rw[Array.getElem?_modify];by_cases hj:b=j
 ·subst hj
  obtain ⟨hb,he⟩:=Array.getElem?_eq_some_iff.1 hw;simp [hb,he]
 ·simp [hj,Array.getElem?_setIfInBounds_ne hj]
theorem aMa (H:HR P w0 ρ h nx w) {x y:Operand} {pt it e:TypeId} {a:Array Operand} {ts:Array TypeId} (ha:a.toList=[x,y]) (hts:ts.toList=[pt,it]) (hp:P.underlying pt=some (.pointer e)) (hce:P.cellsOf e=1)
  (hT:XR ρ tm tmps (Op.operands (.call ⟨.builtin .unsafeString,a,ts⟩)).toList) (e':wK (.us e (aD P x) (aD P y)) tm h nx k=.ok r) :
  ∃ v h' nx',k v h' nx'=.ok r∧WG P w0 w ρ tmps ds ⟨dst,.call ⟨.builtin .unsafeString,a,ts⟩,ty,pos,aft,gd'⟩ h nx v h' nx':=by
 obtain ⟨a⟩:=a;obtain ⟨ts⟩:=ts;simp only at ha hts;subst ha;subst hts;simp only[wK] at e';obtain ⟨c,e1,hc⟩:=opd (ds:=ds) (o:=⟨dst,.call ⟨.builtin .unsafeString,#[x,y],#[pt,it]⟩,ty,pos,aft,gd'⟩) H hT (by simp [Op.operands,Call.operands]) e';obtain ⟨d,e2,hd⟩:=opd (ds:=ds) (o:=⟨dst,.call ⟨.builtin .unsafeString,#[x,y],#[pt,it]⟩,ty,pos,aft,gd'⟩) H hT (by simp [Op.operands,Call.operands]) e1
 have hex:∀ u w',(Builtin.unsafeString_ #[pt,it] ty #[ev tmps ds x,ev tmps ds y]).run P w=.ok u w'→(execOp (ev tmps ds) ⟨dst,.call ⟨.builtin .unsafeString,#[x,y],#[pt,it]⟩,ty,pos,aft,gd'⟩).run P w=.ok (.value u) w':=fun u w' hu=>by
  simp [execOp,resolve,invoke,builtin];simp [ev] at hu;simp [hu]
 split at e2
 ·rename_i l
  have hy:ev tmps ds y=.int .i64 (l:Int):=hd.inv_int;cases c <;> simp only at e2 <;> first|cases e2|skip
  ·obtain ⟨hg,e3⟩:=bR e2
   have h0:=Nat.eq_of_beq_eq_true hg;subst h0;have hx:ev tmps ds x=.pointer none:=by generalize ev tmps ds x=u at hc;cases hc;rfl
   refine ⟨_,_,_,e3,w,ρ,.string ⟨⟨[]⟩⟩,.inl (hex _ _ ?_),.str _ _ [] rfl rfl,H,Keep.refl _ _ _,Nat.le_refl _⟩;rw[hx,hy]
   have:Builtin.unsafeString_ #[pt,it] ty #[.pointer none,.int .i64 (0:Nat)] =
    (do
     let n ←asInt (.int .i64 (0:Nat))
     if n < 0 then runtimePanic (.error "unsafe.String: len out of range")
     if n > IntKind.i64.max then unsupported (.unsafePointer "String: a length above the largest int")
     if n=0 then pure (.string .empty) else runtimePanic (.error "unsafe.String: ptr is nil and len is not zero")):=rfl
   rw[this];simp [asInt,asIntOf];rfl
  ·obtain ⟨hg,e3⟩:=bR e2
   rw[bS] at e3;simp only[Bool.and_eq_true] at hg;obtain ⟨⟨q1,q2⟩,q3⟩:=hg;have q1:=cZ q1;have q2:=Nat.eq_of_beq_eq_true q2;have q3:=Nat.le_of_ble_eq_true q3;subst q2;obtain ⟨b,N,hx,hb⟩:=hc.inv_ptr
   split at e3
   ·rename_i o m t anc flo ty' ex hob
    obtain ⟨hg2,e4⟩:=bR e3;rw[Bool.and_eq_true] at hg2;have q4:=Nat.le_of_ble_eq_true hg2.1;have q5:=Nat.eq_of_beq_eq_true hg2.2;rw[pH] at e4;obtain ⟨us,c1,c2,c3,c4⟩:=H.cells (off:=0) (m:=l) hb (.inl ⟨anc,flo,ty',ex,hob⟩) (by omega);obtain ⟨s,s1,s2⟩:=aCf c3 e4;rw[cK] at s2;have hO:=H.obj _ b N hb;rw[hob] at hO;cases hO with
    |row _ _ _ _ _ _ _ _ Vs hB hw hN hn =>
    have hsl:s.length=l:=by rw[←c1,s1];simp [jI]
    obtain ⟨f1,f2,_⟩:=H.toRo (us:=[]) (fz:=(0,l)) hb hob hw (.inr rfl);have hov:overwrite Vs m []=Vs:=by simp [overwrite]
    rw[hov,←xj hw (by omega)] at f1;refine ⟨_,_,_,s2,_,ρ,.string ⟨⟨s⟩⟩,.inl (hex _ _ ?_),.str _ _ s hsl rfl,f1,f2,Nat.le_refl _⟩;rw[hx,hy,←hsl];refine Lib.run_unsafeString_row w pt it ty e hp hce b Vs.length (by simp [World.shape?,hw,q5]) s (by intro h0;subst h0;simp at hsl;omega) (by omega) (by omega) fun j y hj=>?_
    rw[cD];refine c2 j _ ?_;rw[s1];simp [jI,hj]
   ·cases e3
 ·cases e2
end Go.CM
end
noncomputable section
namespace Go.CM
open Go.AM (aZ bC aL aR)
variable {P:Program} {w0 w:World} {ρ:Rho} {h:T O} {nx:Q} {tm:T V} {tmps:Array Value} {ds:List Deferred} {r v:V}
theorem cz {o:Option WB} {b:WB} (hb:orW o=.w b):o=some b:=by
 cases o with
 |none=>cases hb
 |some p=>simp only[orW] at hb;cases hb;rfl
theorem nI {o:Option PB} {b:WB} (hb:orP o=.w b):False:=by cases o <;> cases hb
theorem wv {o:Option AB} {b:WB} (hb:orA o=.w b):False:=by cases o <;> cases hb
theorem aFN {t:TypeId} (h:∃ u:Unit,(match P.underlying t with|some (.slice _)=>some ()|some .string=>some ()|_=>none)=some u):∃ d,P.underlying t=some d∧∀ k,d≠.int k:=by
 obtain ⟨u,h⟩:=h
 split at h
 ·rename_i hu;exact ⟨_,hu,fun k e=>by cases e⟩
 ·rename_i hu;exact ⟨_,hu,fun k e=>by cases e⟩
 ·cases h
theorem aF3 (H:HR P w0 ρ h nx w) {o:Oper} {b:WB} {k:V→T O→Q→Res} (hb:bT P o=.w b) (hT:XR ρ tm tmps o.op.operands.toList) (e:wK b tm h nx k=.ok r) :
  ∃ v h' nx',k v h' nx'=.ok r∧WG P w0 w ρ tmps ds o h nx v h' nx':=by
 obtain ⟨dst,op,ty,pos,aft,gd'⟩:=o;cases op <;> simp only[bT] at hb
 case store t a x =>
  obtain ⟨s,hs,hb⟩:=j1 (cz hb);subst hb;exact aKU H hs hT e
 case mapUpdate t m key x =>
  split at hb
  ·rename_i s el ht
   cases hb;exact aJB H (.inl rfl) ht hT e
  ·cases hb
 case insert t m key x =>
  split at hb
  ·rename_i s el ht
   cases hb;exact aJB H (.inr rfl) ht hT e
  ·cases hb
 case mapEntry t m key =>
  split at hb
  ·rename_i s el ht
   obtain ⟨z,hz,hb⟩:=j1 (cz hb);subst hb;exact aMW H ht hz hT e
  ·cases hb
 case entryStore t m s x=>cases hb;exact aOu H hT e
 case convert s d x =>
  split at hb
  ·cases hb
  ·cases hb
  ·cases hb
  ·split at hb <;> cases hb
  ·split at hb
   ·split at hb <;> cases hb
   ·cases hb
  ·rename_i hs hd
   split at hb
   ·rename_i he
    cases hb;exact aLB H hs hd he hT e
   ·cases hb
  ·cases hb
 case call c =>
  obtain ⟨cal,a,ts⟩:=c;cases cal <;> simp only[gC] at hb
  ·cases hb
  ·cases hb
  ·split at hb
   ·rename_i ha hts
    obtain ⟨el,hel,hb⟩:=cS (cz hb);obtain ⟨u,hu,hb⟩:=cS hb;obtain ⟨s,hs,hb⟩:=cS hb;obtain ⟨z,hz,hb⟩:=cS hb
    split at hb
    ·rename_i hg
     simp at hb;subst hb;simp only[Bool.and_eq_true] at hg;exact aMF H ha hts (iR hel) (aFN ⟨u,hu⟩) hs hz (cZ hg.1.1) (Nat.le_of_ble_eq_true hg.1.2) (cZ hg.2) hT e
    ·cases hb
   ·split at hb <;> cases hb
   ·rename_i ha hts
    obtain ⟨el,hel,hb⟩:=cS (cz hb);obtain ⟨el2,_,hb⟩:=cS hb;obtain ⟨s,hs,hb⟩:=j1 hb;subst hb;exact aNz H ha (by rw[←Array.getElem?_toList,hts];rfl) (iR hel) hs hT e
   ·cases hb
   ·rename_i ha hts
    split at hb
    ·rename_i hp
     split at hb
     ·rename_i hc
      cases hb;exact aMa H ha hts hp (Nat.eq_of_beq_eq_true hc) hT e
     ·cases hb
    ·cases hb
   ·cases hb
   ·cases hb
   ·cases hb
 case defer c =>
  split at hb
  ·cases hb
  ·split at hb
   ·split at hb <;> cases hb
   ·cases hb
  ·cases hb
 case alloc t=>exact (wv hb).elim
 case box t x=>exact (wv hb).elim
 case buildSlice t len parts=>exact (wv hb).elim
 case makeMap t r'=>split at hb <;> cases hb
 case makeSlice t l c=>exact (wv hb).elim
 case binOp op t x y yt=>cases hb
 case build t parts=>exact (nI hb).elim
 case load t a=>exact (nI hb).elim
 case unOp op t x=>cases op <;> cases hb
 case makeInterface t x=>split at hb <;> cases hb
 case makeFunc fn first caps=>split at hb <;> cases hb
 case slice t x lo hi mx =>
  split at hb
  ·cases hb
  ·split at hb
   ·cases hb
   ·exact (nI hb).elim
  ·cases hb
 case fieldAddr t x f=>exact (nI hb).elim
 case field t x f=>exact (nI hb).elim
 case indexAddr t x i =>
  split at hb
  ·exact (nI hb).elim
  ·exact (nI hb).elim
  ·cases hb
 case index t x i =>
  split at hb
  ·cases hb
  ·exact (nI hb).elim
  ·cases hb
 case lookup t m key ok =>
  split at hb
  ·exact (nI hb).elim
  ·cases hb
 case typeAssert x xt t okb=>exact (nI hb).elim
 all_goals cases hb
theorem aCK:∀ {a b:V},eqF a b=true→a=b:=by
 intro a b e;cases a <;> cases b <;> simp only[eqF,Bool.and_eq_true,beq_iff_eq,Bool.false_eq_true] at e
 all_goals first
  |rfl
  |(subst e;rfl)
  |(obtain ⟨e1,e2⟩:=e;have h1:=sK e1;rw[rG] at e2;simp at e2;subst h1;subst e2;rfl)
  |(obtain ⟨e1,e2⟩:=e;have h1:=Nat.eq_of_beq_eq_true e1;have h2:=Nat.eq_of_beq_eq_true e2;subst h1;subst h2;rfl)
  |(obtain ⟨e1,e2⟩:=e;have h1:=Q.beq_iff.1 e1;have h2:=Nat.eq_of_beq_eq_true e2;subst h1;subst h2;rfl)
  |(obtain ⟨⟨⟨e1,e2⟩,e3⟩,e4⟩:=e;have h1:=Q.beq_iff.1 e1;have h2:=Nat.eq_of_beq_eq_true e2;have h3:=Nat.eq_of_beq_eq_true e3;have h4:=Nat.eq_of_beq_eq_true e4;subst h1;subst h2;subst h3;subst h4;rfl)
  |(have h1:=Q.beq_iff.1 e;subst h1;rfl)
  |cases e
theorem uF:∀ {l m:List V},eqL l m=true→l=m
 |[],[],_=>rfl
 |[],_::_,e=>by cases e
 |_::_,[],e=>by cases e
 |a::l,b::m,e=>by
  simp only[eqL] at e
  split at e
  ·rename_i h1
   rw[aCK h1,uF e]
  ·cases e
theorem aGG {a b:V} (e:eqV a b=true):a=b:=by
 cases a <;> simp only[eqV] at e
 case agg l=>cases b <;> simp only[Bool.false_eq_true] at e;rw[uF e]
 case tup l=>cases b <;> simp only[Bool.false_eq_true] at e;rw[uF e]
 case fn f l l' =>
  cases b <;> simp only[Bool.false_eq_true] at e
  simp only[Bool.and_eq_true] at e;rw[Q.beq_iff.1 e.1,uF e.2.1,uF e.2.2]
 all_goals exact aCK e
end Go.CM
end
