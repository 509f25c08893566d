import Derived.Test.YtoiocfngjchdiaaGreatDoorA01
import Derived.Laws.Tables
set_option linter.all false
namespace Go.AM
section
variable {P:Program}{ans:FuncId->AF}{an:AF}{w:World}{B0:Nat}{Ψ:HT}{J:List Nat}{ow:Own}{tmps:Array Value}{R:Type}{r:R}
variable {tm:List Slot}{rs:RS}{dst:Option Nat}{m:Machine}{mk mp:Value->World->Machine}{kp:AVal->RS->Option R}{k:Slot->RS->Option R}{ds:List Deferred}
def fD(Ψ:HT)(n:Nat)(τ:Nat->Option AVal):HT:=λb o=>if b=n then(λc=>τ o=some c) else Ψ b o
def oset(ow:Own)(n:Nat)(id:Option Hm):Own:=λb=>if b=n then id else ow b
theorem pJ(h:WSat Ψ w)(τ:Nat->Option AVal):Ψ.le (fD Ψ w.heap.size τ):=λb o c e=>by
 have:=h.lt e
 simp[fD,show ¬b=w.heap.size by omega,e]
theorem rF(h:WSat Ψ w):fD Ψ w.heap.size (λ_=>none)=Ψ:=by
 funext b o;unfold fD;split
 ·subst_vars
  rw[h.none_of_ge (Af _) o];funext c;exact propext ⟨λe=>(by cases e),λe=>(e:False).elim⟩
 ·rfl
theorem k8{o:Obj}{τ:Nat->Option AVal}{id:Option Hm}(AL:∀b,ow b≠none->b<w.heap.size)(kk:Bool)(i:Nat) :
  Same w Ψ ow (w.alloc o) (fD Ψ w.heap.size τ) (oset ow w.heap.size id) kk i kk i:=λb s hb=>by
 have h1:=AL b (by simp[hb]);have h2:¬b=w.heap.size:=by omega
 exact⟨by simp[oset,h2,hb],heap_alloc_old _ h1,λo h=>by simp[fD,h2,h]⟩
theorem Fr.alloc{o:Obj}{τ:Nat->Option AVal}{id:Option Hm}(hw:WSat Ψ w):Fr w Ψ ow (w.alloc o) (fD Ψ w.heap.size τ) (oset ow w.heap.size id) :=
 ⟨pJ hw τ,by simp,λb hb _=>⟨heap_alloc_old _ hb,λo=>by simp[fD,show ¬b=w.heap.size by omega]⟩,λb hb=>by
  by_cases h:b=w.heap.size
  ·exact .inr (by omega)
  ·exact .inl (by simpa[oset,h] using hb),rfl,rfl,rfl⟩
theorem WSat.alloc{o:Obj}{τ:Nat->Option AVal}(hw:WSat Ψ w)(hτ:∀off c,τ off=some c->flat c=true/\∃v,(w.alloc o).cell? ⟨w.heap.size,off,none⟩=some v/\VRel Ψ [] c v) :
  WSat (fD Ψ w.heap.size τ) (w.alloc o):=⟨by have:=hw.size8;simp;omega,λb off c e=>by
 by_cases h:b=w.heap.size
 ·subst h
  obtain⟨h1,v,h2,h3⟩:=hτ off c (by simpa[fD] using e);exact⟨h1,v,h2,h3.mono (pJ hw τ) (aG _)⟩
 ·have e':Ψ b off c:=by simpa[fD,h] using e
  obtain⟨h1,v,h2,h3⟩:=hw.sat b off c e';exact⟨h1,v,(cell_congr (heap_alloc_old _ (hw.lt e')) off).trans h2,h3.mono (pJ hw τ) (aG _)⟩⟩
theorem Rel.alloc{E:Nat->Slot}{objs:List AObj}(h:Rel P ans B0 w Ψ J ow an E tmps objs){o:Obj}{τ:Nat->Option AVal}{id:Option Hm}
  (hτ:∀off c,τ off=some c->flat c=true/\∃v,(w.alloc o).cell? ⟨w.heap.size,off,none⟩=some v/\VRel Ψ [] c v) :
  Rel P ans B0 (w.alloc o) (fD Ψ w.heap.size τ) J (oset ow w.heap.size id) an E tmps objs :=
 ⟨h.size,h.wsat.alloc hτ,λt=>(h.slots t).mono (pJ h.wsat τ) (aG _) (k8 h.lt false t) (λ_ _ _=>rfl),h.refs,h.boxes,h.objs.mono (pJ h.wsat τ) (λi _=>k8 h.lt true i),λb hb=>by
  by_cases e:b=w.heap.size
  ·simp;omega
  ·have:=h.lt b (by simpa[oset,e] using hb);simp;omega,by have:=h.base;simp;omega,h.hi⟩
theorem Rel.heap{E:Nat->Slot}{objs:List AObj}(h:Rel P ans B0 w Ψ J ow an E tmps objs){w1:World}(e:w1.heap=w.heap):Rel P ans B0 w1 Ψ J ow an E tmps objs:=by
 have hs:∀kk i,Same w Ψ ow w1 Ψ ow kk i kk i:=λkk i b s hb=>⟨hb,by rw[e],λ_ h=>h⟩
 exact⟨h.size,⟨by rw[e];exact h.wsat.size8,λb o c hc=>by
  obtain⟨h1,v,h2,h3⟩:=h.wsat.sat b o c hc;exact⟨h1,v,(cell_congr (by rw[e]) o).trans h2,h3⟩⟩,λt=>(h.slots t).mono Ψ.le_refl (aG _) (hs false t) (λ_ _ _=>rfl),h.refs,h.boxes,h.objs.mono Ψ.le_refl (λi _=>hs true i),λb hb=>by rw[e];exact h.lt b hb,by rw[e];exact h.base,h.hi⟩
theorem Fr.heap{w1:World}(e:w1.heap=w.heap)(h1:w1.os=w.os)(h2:w1.tape=w.tape)(h3:w1.output=w.output):Fr w Ψ ow w1 Ψ ow :=
 ⟨Ψ.le_refl,by rw[e];exact Af _,λb _ _=>⟨by rw[e],λ_=>rfl⟩,λ_ h=>.inl h,h1,h2,h3⟩
theorem qS(kk:Bool)(i:Nat):∀(hs:List (Option Nat))(xs:List AVal)(vs:List Value)(j0:Nat),xs.length=vs.length->(∀(j:Nat) x v,xs[j]?=some x->vs[j]?=some v->iL v=some x) ->
  (eM hs xs).length=vs.length/\∀(j:Nat) c v,(eM hs xs)[j]?=some c->vs[j]?=some v->CRel w B0 Ψ J ow (kk,i,j0+j+1) c v
 |[],xs,vs,j0,hl,h=>by
  refine⟨by simpa[eM] using hl,λj c v hc hv=>?_⟩;simp only[eM,Av,Ap] at hc;obtain⟨x,hx,rfl⟩:=hc;obtain⟨h1,h2⟩:=fM (Ψ:=Ψ) (J:=J) (h j x v hx hv);exact .val _ _ h1 h2
 |h::hs,[],vs,j0,hl,_=>by
  refine⟨by simpa[eM] using hl,λj c v hc hv=>by simp[eM] at hc⟩
 |h::hs,x::xs,[],j0,hl,_=>by simp at hl
 |h::hs,x::xs,v::vs,j0,hl,hh=>by
  obtain⟨h1,h2⟩:=qS kk i hs xs vs (j0+1) (by simpa using hl) (λj y u hy hu=>hh (j+1) y u (by simpa using hy) (by simpa using hu));refine⟨by simp[eM,h1],λj c u hc hu=>?_⟩;cases j with
  |zero =>
   simp[eM] at hc hu;subst hu hc;have ha:=hh 0 x v (by simp) (by simp);obtain⟨g1,g2⟩:=fM (Ψ:=Ψ) (J:=J) ha;unfold aDb;split
   ·have hv:v=.slice none 0 0:=by
     unfold iL at ha
     split at ha<;>simp at ha<;>rfl
    subst hv;exact .own _ _ _ (wR _ _)
   ·exact .val _ _ g1 g2
  |succ j =>
   simp[eM] at hc hu
   have:=h2 j c u hc hu
   rwa [show j0+1+j+1=j0+(j+1)+1 by omega] at this
theorem oC{t:TypeId}{z:List Cell}(h:zeroCells P t=some z)(kk:Bool)(i:Nat):∃v,(P.info? t).bind (·.zero)=some v/\CsRel w B0 Ψ J ow kk i z v.cells.toList:=by
 simp only[zeroCells,zeroOf,Ap,Cv] at h;obtain⟨x,⟨v,⟨a,ha,hv⟩,hx⟩,rfl⟩:=h;refine⟨v,by rw[ha];exact hv,?_⟩
 have key:x.cells.length=v.cells.toList.length/\∀(j:Nat) y u,x.cells[j]?=some y->v.cells.toList[j]?=some u->iL u=some y:=by
  cases v with
  |agg cs =>
   simp only[iM,Ap] at hx;obtain⟨l,hl,rfl⟩:=hx;obtain⟨h1,h2⟩:=qT hl;exact⟨by simpa[AVal.cells,Value.cells] using h1,λj y u hy hu=>h2 j y u hy (by simpa[Value.cells] using hu)⟩
  |_ =>
   have hc:=fM (Ψ:=λ_ _=>F7) (J:=[]) (show iL _=some x by simpa only[iM] using hx);rw[fB hc.1];refine⟨by simp[Value.cells],λj y u hy hu=>?_⟩;cases j with
   |zero=>simp[Value.cells] at hy hu;subst hy;subst hu;simpa only[iM] using hx
   |succ j=>simp at hy
 obtain⟨h1,h2⟩:=qS (w:=w) (B0:=B0) (Ψ:=Ψ) (J:=J) (ow:=ow) kk i (hints P 8 t) x.cells v.cells.toList 0 key.1 key.2;exact⟨h1,λj c u hc hu=>by have:=h2 j c u hc hu;rwa [Bo] at this⟩
theorem aMt(h:Rel P ans B0 w Ψ J ow an (sl an tm rs) tmps rs.sto.objs){z:List Cell}{vs:List Value}{T:TypeId}(hz:CsRel w B0 Ψ J ow false an.nt z vs) :
  Rel P ans B0 (w.alloc (.cells ⟨vs⟩ T)) Ψ J (oset ow w.heap.size (some (false,an.nt,0))) an (sl an tm rs) tmps rs.sto.objs /\
  SRel (w.alloc (.cells ⟨vs⟩ T)) B0 Ψ J (oset ow w.heap.size (some (false,an.nt,0))) tmps an.nt (.box z) (.pointer (some ⟨w.heap.size,0,none⟩)) /\
  Fr w Ψ ow (w.alloc (.cells ⟨vs⟩ T)) Ψ (oset ow w.heap.size (some (false,an.nt,0))):=by
 have e:=rF h.wsat;have h1:=h.alloc (o:=.cells ⟨vs⟩ T) (τ:=λ_=>none) (id:=some (false,an.nt,0)) (λoff c hc=>by cases hc);have h2:=Fr.alloc (ow:=ow) (o:=.cells ⟨vs⟩ T) (τ:=λ_=>none) (id:=some (false,an.nt,0)) h.wsat;have h3:=k8 (Ψ:=Ψ) (o:=.cells ⟨vs⟩ T) (τ:=λ_=>none) (id:=some (false,an.nt,0)) h.lt false an.nt;rw[e] at h1 h2 h3;refine⟨h1,.box _ _ ⟨by simp[oset],h.base,h.wsat.none_of_ge (Af _),vs,T,heap_alloc_new _,hz.mono Ψ.le_refl (aG _) h3⟩,h2⟩
theorem OsRel.push{w':World}{Z':HT}{AQ:Own}{objs:List AObj}{b:Nat}{ob:AObj}(h:OsRel w B0 Ψ J ow ans objs)(hΨ:Ψ.le Z')(hs:∀i,i<objs.length->Same w Ψ ow w' Z' AQ true i true i)
  (hn:ORel w' B0 Z' (J++[b]) AQ ans objs.length ob b):OsRel w' B0 Z' (J++[b]) AQ ans (objs++[ob]):=by
 refine⟨by simp[h.1],λi o ho=>?_⟩;rw[Ck] at ho
 split at ho
 ·rename_i hi
  obtain⟨b',h1,h2⟩:=h.2 i o ho;refine⟨b',dW _ _ _ _ h1,h2.mono hΨ ?_ (hs i hi)⟩;rw[List.take_append_of_le_length (by rw[h.1];omega)];exact aG _
 ·rename_i hi
  have:i=objs.length:=by
   have:=(Ab.1 ho).1;simp at this;omega
  subst this;simp at ho;subst ho;exact⟨b,by rw[Bi (by rw[h.1];exact Af _)];simp[h.1],hn⟩
theorem zG{E:Nat->Slot}{objs:List AObj}(h:Rel P ans B0 w Ψ J ow an E tmps objs){ob:AObj}{o:Obj}(BO:Own)(h1:∀b,BO b≠none->ow b≠none)(Hx:∀kk i,¬(kk=false/\i=an.nt)->Same w Ψ ow w Ψ BO kk i kk i)
  (hn:ORel (w.alloc o) B0 Ψ (J++[w.heap.size]) (oset BO w.heap.size (some (true,objs.length,0))) ans objs.length ob w.heap.size) :
  Rel P ans B0 (w.alloc o) Ψ (J++[w.heap.size]) (oset BO w.heap.size (some (true,objs.length,0))) an E tmps (objs++[ob]) /\
  Fr w Ψ ow (w.alloc o) Ψ (oset BO w.heap.size (some (true,objs.length,0))):=by
 have e:=rF h.wsat;have Ki:∀b,BO b≠none->b<w.heap.size:=λb hb=>h.lt b (h1 b hb)
 have CA:∀kk i,¬(kk=false/\i=an.nt)->Same w Ψ ow (w.alloc o) Ψ (oset BO w.heap.size (some (true,objs.length,0))) kk i kk i:=λkk i hk b s hb=>by
  obtain⟨g1,_,_⟩:=Hx kk i hk b s hb;have h2:=k8 (Ψ:=Ψ) (ow:=BO) (o:=o) (τ:=λ_=>none) (id:=some (true,objs.length,0)) Ki kk i b s g1;rw[e] at h2;exact h2
 have hw:=h.wsat.alloc (o:=o) (τ:=λ_=>none) (λoff c hc=>by cases hc);rw[e] at hw;have hf:=Fr.alloc (ow:=BO) (o:=o) (τ:=λ_=>none) (id:=some (true,objs.length,0)) h.wsat;rw[e] at hf;refine⟨⟨h.size,hw,λt=>?_,h.refs,h.boxes,h.objs.push Ψ.le_refl (λi _=>CA true i (by simp)) hn,λb hb=>?_,by have:=h.base;simp;omega,h.hi⟩,⟨hf.le,hf.size,λb hb ho=>hf.keep b hb ?_,λb hb=>?_,hf.os,hf.tape,hf.output⟩⟩
 ·rcases Dh t an.nt with h2|h2
  ·exact(h.slots t).mono Ψ.le_refl (dW _ _) (CA false t (by simp;omega)) (λ_ _ _=>rfl)
  ·rw[h.hi t h2];exact .dead _
 ·by_cases hbe:b=w.heap.size
  ·simp;omega
  ·have:=Ki b (by simpa[oset,hbe] using hb);simp;omega
 ·cases e1:BO b with
  |none=>rfl
  |some x=>exact absurd ho (h1 b (by simp[e1]))
 ·rcases hf.own b hb with h3|h3
  ·exact .inl (h1 b h3)
  ·exact .inr h3
end
section
variable {P:Program}{ans:FuncId->AF}{an:AF}{w:World}{B0:Nat}{Ψ:HT}{J:List Nat}{ow:Own}{tmps:Array Value}{R:Type}{r:R}
def aZ(xs:List AVal):List AVal:=xs.flatMap AVal.cells
theorem cB:∀{xs:List AVal}{s:Nat},(∀x∈xs,x.cells.length=s)->(aZ xs).length=xs.length*s
 |[],s,_=>by simp[aZ]
 |x::xs,s,h=>by
  have:=cB (xs:=xs) (s:=s) (λy hy=>h y (by simp[hy]))
  simp only[aZ,Ee,Bm,An] at this ⊢;rw[this,h x (by simp),Cr];omega
theorem gL:∀{xs:List AVal}{s:Nat},(∀x∈xs,x.cells.length=s)->∀{i j:Nat}{x:AVal},xs[i]?=some x->j<s->(aZ xs)[i*s+j]?=x.cells[j]?
 |[],s,_,i,j,x,hx,_=>by simp at hx
 |y::xs,s,h,0,j,x,hx,hj=>by
  simp at hx;subst hx;simp only[aZ,Ee,Fi,Bo];rw[Az (by rw[h y (by simp)];exact hj)]
 |y::xs,s,h,i+1,j,x,hx,hj=>by
  simp at hx;have ih:=gL (xs:=xs) (s:=s) (λz hz=>h z (by simp[hz])) hx hj;simp only[aZ,Ee] at ih ⊢;rw[Bi (by rw[h y (by simp),Cr];omega),h y (by simp),show(i+1)*s+j-s=i*s+j by rw[Cr];omega];exact ih
theorem gM{xs:List AVal}{s:Nat}(h:∀x∈xs,x.cells.length=s){p:Nat}{c:AVal}(hc:(aZ xs)[p]?=some c):∃i j x,p=i*s+j/\j<s/\xs[i]?=some x/\x.cells[j]?=some c:=by
 have hp:p<xs.length*s:=by rw[<-cB h];exact(Ab.1 hc).1
 have hs:0<s:=by
  rcases Fa s with e|e
  ·subst e;simp at hp
  ·exact e
 have hi:p/s<xs.length:=by rw[Nat.div_lt_iff_lt_mul hs];exact hp
 have hj:=Et p hs;have he:p=p/s*s+p%s:=by rw[Gj];exact(Nat.div_add_mod p s).symm
 refine⟨p/s,p%s,xs[p/s],he,hj,by simp[hi],?_⟩
 have:=gL h (i:=p/s) (j:=p%s) (x:=xs[p/s]) (by simp[hi]) hj
 rw[<-this,<-he];exact hc
theorem j7(xs ys:List AVal):aZ (xs++ys)=aZ xs++aZ ys:=by simp[aZ]
theorem VRel.rows{xs:List AVal}{a:Option Addr}{len cap s:Nat}(h:VRel Ψ J (.slice xs) (.slice a len cap))(hs:∀x∈xs,x.cells.length=s) :
  xs.length=len/\len<=cap/\(xs≠[]->∃b o,a=some ⟨b,o,none⟩/\∀(p:Nat) c,(aZ xs)[p]?=some c->Ψ b (o+p) c):=by
 cases h with
 |slice _ _ _ _ s' hl hc hx =>
  refine⟨hl,hc,λBD=>?_⟩;obtain⟨x0,rest,rfl⟩:=List.exists_cons_of_ne_nil BD;obtain⟨e0,b,o,ha,_⟩:=hx 0 x0 (by simp);have es:s'=s:=by rw[<-e0];exact hs x0 (by simp)
  refine⟨b,o,ha,λp c hc=>?_⟩;obtain⟨i,j,x,rfl,hj,hxi,Sm⟩:=gM hs hc;obtain⟨_,b',o',KC,ht⟩:=hx i x hxi;rw[ha] at KC;obtain⟨rfl,rfl⟩:b=b'/\o=o':=by simpa using KC
  have:=ht j c Sm
  rw[es] at this
  rwa [<-Dc]
theorem VRel.of_rows{xs:List AVal}{a:Option Addr}{len cap s:Nat}(hl:xs.length=len)(hc:len<=cap)(hs:∀x∈xs,x.cells.length=s)
  (h:xs≠[]->∃b o,a=some ⟨b,o,none⟩/\∀(p:Nat) c,(aZ xs)[p]?=some c->Ψ b (o+p) c):VRel Ψ J (.slice xs) (.slice a len cap):=by
 refine .slice _ _ _ _ s hl hc λi x hx=>⟨hs x (Ba hx),?_⟩
 obtain⟨b,o,ha,ht⟩:=h (by intro e;subst e;simp at hx);refine⟨b,o,ha,λj c hj=>?_⟩;have MU:j<s:=by rw[<-hs x (Ba hx)];exact(Ab.1 hj).1
 have:=ht (i*s+j) c (by rw[gL hs hx MU];exact hj)
 rwa [Dc]
theorem WSat.row(hw:WSat Ψ w){b o:Nat}{cs:List AVal}(h:∀(p:Nat) c,cs[p]?=some c->Ψ b (o+p) c) :
  ∃vs:List Value,vs.length=cs.length/\(∀(p:Nat) v,vs[p]?=some v->w.cell? ⟨b,o+p,none⟩=some v)/\(∀v∈vs,oneC v=true)/\∀(p:Nat) c v,cs[p]?=some c->vs[p]?=some v->flat c=true/\VRel Ψ [] c v:=by
 have hex:∀p,p<cs.length->∃v,w.cell? ⟨b,o+p,none⟩=some v/\flat (cs.getD p .nilptr)=true/\VRel Ψ [] (cs.getD p .nilptr) v:=λp hp=>by
  obtain⟨h1,v,h2,h3⟩:=hw.sat _ _ _ (h p cs[p] (by simp[hp]));exact⟨v,h2,by simpa[hp] using h1,by simpa[hp] using h3⟩
 refine⟨(List.range cs.length).map λp=>(w.cell? ⟨b,o+p,none⟩).getD undef,by simp,?_,?_,?_⟩
 ·intro p v hv
  have hp:p<cs.length:=by have:=(Ab.1 hv).1;simpa using this
  obtain⟨u,hu,_⟩:=hex p hp;rw[Av,Ce hp] at hv;simp[hu] at hv ⊢;exact hv
 ·intro v hv
  simp only[Cm,Co] at hv;obtain⟨p,hp,rfl⟩:=hv;obtain⟨u,hu,h1,h2⟩:=hex p hp;rw[hu];exact h2.one (jM h1)
 ·intro p c v hc hv
  have hp:p<cs.length:=(Ab.1 hc).1;obtain⟨u,hu,h1,h2⟩:=hex p hp;rw[Av,Ce hp] at hv;simp[hu] at hv;subst hv
  have:cs.getD p .nilptr=c:=by simp[Br,hc]
  rw[this] at h1 h2;exact⟨h1,h2⟩
theorem zA(n:Nat):∀(rounds c:Nat),c<=2*n+512->(c<n\/c<=2*n+512)->Builtin.growBy n rounds c<=2*n+512
 |0,c,h,_=>h
 |k+1,c,h,_=>by
  unfold Builtin.growBy;split
  ·exact h
  ·exact zA n k _ (by omega) (.inr (by omega))
theorem nextslicecap_le{need c:Nat}(h:c<need):Builtin.nextslicecap need c<=2*need+512:=by
 unfold Builtin.nextslicecap;split
 ·omega
 ·split
  ·omega
  ·exact zA need 4 c (by omega) (.inl h)
theorem dG{b o size n cap:Nat}{vs:List Value}(hl:vs.length=n*size)(h:∀(p:Nat) v,vs[p]?=some v->w.cell? ⟨b,o+p,none⟩=some v) :
  (Builtin.firstCells size n (.slice (some ⟨b,o,none⟩) n cap)).run P w=.ok ⟨vs⟩ w:=by
 have:=run_loadCells_list (P:=P) (w:=w) ⟨b,o,none⟩ vs (λj v hj=>by rw[cE];exact h j v hj)
 simp[Builtin.firstCells,<-hl,this]
theorem jH(zero:Array Value)(n:Nat):(Builtin.zeroCells zero n).size=n*zero.size:=by simp[Builtin.zeroCells]
theorem er{E:Nat->Slot}{objs:List AObj}(h:Rel P ans B0 w Ψ J ow an E tmps objs){sz:Nat}{xs ys:List AVal}{v x:Value}(ho:VRel Ψ [] (.slice xs) v/\(∀x∈xs,x.cells.length=sz)/\∃a len cap,v=.slice a len cap/\(len=cap\/∃b o cs E,a=some ⟨b,o,none⟩/\ow b=some (false,an.nt,1)/\w.heap[b]?=some (.cells cs E (0,0))/\B0<=b/\o+cap*sz<=cs.size/\∀o',o+len*sz<=o'->Ψ b o'=F7))(M0:ys=[]->OwnRel w B0 Ψ ow (false,an.nt,1) sz xs v)(hy:VRel Ψ J (.slice ys) x)
  (Mv:∀y∈ys,y.cells.length=sz) {ts:Array TypeId} {ty t1 t2 e e2:TypeId} (h1:ts[0]?=some t1) (h2:ts[1]?=some t2) (FD:P.underlying t1=some (.slice e)) (EG:P.underlying t2=some (.slice e2)) (BC:aP P e=some sz) (CG:0<sz)
  {z:Value} (hz:(P.info? e).bind (·.zero)=some z) (IP:z.cells.size=sz) (Lf:aC P e<=16384) (H3:0<aC P e) (GJ:xs.length+ys.length<=room) :
  ∃v' w' Z' AQ,(Builtin.append_ ts ty #[v,x]).run P w=.ok v' w'/\Rel P ans B0 w' Z' J AQ an E tmps objs/\OwnRel w' B0 Z' AQ (false,an.nt,1) sz (xs++ys) v'/\Fr w Ψ ow w' Z' AQ:=by
 obtain⟨hx,E0,base,AR,BR,rfl,GK⟩:=ho;obtain⟨hl,Oa,JQ⟩:=hx.rows E0;cases hy with
 |slice _ xa n JG s' Gu hcn hxx =>
 have hyv:VRel Ψ J (.slice ys) (.slice xa n JG):=.slice _ _ _ _ s' Gu hcn hxx;obtain⟨_,_,LS⟩:=hyv.rows Mv;have M3:∀i,P.info? e=some i->i.bytes=aC P e:=λi hi=>by simp[aC,hi]
 obtain⟨ti,G9⟩:∃ti,P.info? e=some ti:=by
  cases hi:P.info? e with
  |none=>simp[hi] at hz
  |some ti=>exact⟨ti,rfl⟩
 have K8:ti.zero=some z:=by simpa[G9] using hz
 obtain⟨yv,yl,yc,y1,yr⟩:∃yv:List Value,yv.length=n*sz/\(Builtin.firstCells sz n (.slice xa n JG)).run P w=.ok ⟨yv⟩ w/\(∀u∈yv,oneC u=true)/\∀(p:Nat) c u,(aZ ys)[p]?=some c->yv[p]?=some u->flat c=true/\VRel Ψ [] c u:=by
  by_cases BD:ys=[]
  ·subst BD
   simp at Gu;subst Gu;refine⟨[],by simp,?_,by simp,by simp⟩;cases xa with
   |none=>simp[Builtin.firstCells]
   |some a=>simp[Builtin.firstCells,loadCells,loadCellsFrom]
  ·obtain⟨b,o,rfl,ht⟩:=LS BD
   obtain⟨yv,l1,l2,l3,l4⟩:=h.wsat.row ht;have hyl:yv.length=n*sz:=by rw[l1,cB Mv,Gu]
   exact⟨yv,hyl,dG hyl l2,l3,l4⟩
 have OP:∀u∈xs++ys,u.cells.length=sz:=λu hu=>by
  rcases Bn.1 hu with hu|hu
  ·exact E0 u hu
  ·exact Mv u hu
 have hflen:(aZ xs).length=AR*sz:=by rw[cB E0,hl]
 have hylen:(aZ ys).length=n*sz:=by rw[cB Mv,Gu]
 by_cases C7:AR+n<=BR
 ·
  by_cases hn0:n=0
  ·subst hn0
   have hys0:ys=[]:=by cases ys with|nil=>rfl|cons a b=>simp at Gu
   subst hys0;have hyv0:yv=[]:=by cases yv with|nil=>rfl|cons a b=>simp at yl
   subst hyv0;refine⟨.slice base AR BR,w,Ψ,ow,?_,h,by simpa using M0 rfl,Fr.refl _ _ _⟩;cases base with
   |none=>simp[Builtin.append_,h1,h2,run_underlying FD,run_underlying EG,run_sizeOf BC,Builtin.lenOf,yc,Oa]
   |some a=>simp[Builtin.append_,h1,h2,run_underlying FD,run_underlying EG,run_sizeOf BC,Builtin.lenOf,yc,Oa,storeCells]
  ·have AL:¬AR=BR:=by omega
   rcases GK with GK|⟨b,o,cs,E',rfl,C0,hh,hB,Il,CH⟩
   ·exact absurd GK AL
   ·obtain⟨cs⟩:=cs
    have hcap':o+BR*sz<=cs.length:=by simpa using Il
    have hmul:(AR+n)*sz<=BR*sz:=Cq _ C7;have hmul2:(AR+n)*sz=AR*sz+n*sz:=Cr _ _ _;have H5:b<w.heap.size:=(Ai.1 hh).1;have A7:=b8 (P:=P) (T:=E') yv (o+AR*sz) 0 w cs hh y1 (by rw[yl];omega);rw[Aw] at A7;generalize DO:w.putObj b (.cells ⟨overwrite cs (o+AR*sz) yv⟩ E' (0,0))=w' at A7;have FM:w'.heap[b]?=some (.cells ⟨overwrite cs (o+AR*sz) yv⟩ E' (0,0)):=by rw[<-DO];exact World.putObj_heap_same H5
    have Hz:∀b',b'≠b->w'.heap[b']?=w.heap[b']?:=λb' BB=>by rw[<-DO];exact World.putObj_heap_other BB
    have hsize:w'.heap.size=w.heap.size:=by rw[<-DO];simp
    let Z':HT:=λb' o'=>if b'=b/\o+AR*sz<=o'/\o'<o+AR*sz+n*sz then(λc=>(aZ ys)[o'-(o+AR*sz)]?=some c) else Ψ b' o'
    have hle:Ψ.le Z':=λb' o' c hc=>by
     have:¬(b'=b/\o+AR*sz<=o'/\o'<o+AR*sz+n*sz):=λ⟨e1,e2,_⟩=>by subst e1;rw[CH o' e2] at hc;exact hc
     simp only[Z',Bc this];exact hc
    have Ks:∀b',b'≠b->∀o',Z' b' o'=Ψ b' o':=λb' BB o'=>by simp[Z',BB]
    have CA:∀kk i,¬(kk=false/\i=an.nt)->Same w Ψ ow w' Z' ow kk i kk i:=λkk i hk b' s BB=>by
     have BD:b'≠b:=λe=>by subst e;rw[C0] at BB;simp only[Al,Bz] at BB;exact hk ⟨BB.1.symm,BB.2.1.symm⟩
     exact⟨BB,Hz b' BD,λo' E7=>by rw[Ks b' BD];exact E7⟩
    have hws:WSat Z' w':=⟨by rw[hsize];exact h.wsat.size8,λb' o' c hc=>by
     by_cases BB:b'=b
     ·subst BB
      by_cases G3:o+AR*sz<=o'/\o'<o+AR*sz+n*sz
      ·simp only[Z',G3,and_self,true_and,Ds] at hc
       have hp:o'-(o+AR*sz)<yv.length:=by rw[yl];omega
       obtain⟨f1,f2⟩:=yr _ c yv[o'-(o+AR*sz)] hc (by simp[hp]);refine⟨f1,yv[o'-(o+AR*sz)],?_,f2.mono hle (aG _)⟩;rw[cell_of_heap FM,aX _ _ _ _ (by rw[yl];omega),Bc (by omega),Bu (by rw[yl];omega)];simp[hp]
      ·have CW:Ψ b' o' c:=by
        have:¬(b'=b'/\o+AR*sz<=o'/\o'<o+AR*sz+n*sz):=λe=>G3 e.2
        simpa only[Z',Bc this] using hc
       have AP:o'<o+AR*sz:=by
        rcases Dh o' (o+AR*sz) with h'|h'
        ·exact h'
        ·rw[CH o' h'] at CW;exact(CW:False).elim
       obtain⟨f1,u,f2,f3⟩:=h.wsat.sat b' o' c CW;refine⟨f1,u,?_,f3.mono hle (aG _)⟩;rw[cell_of_heap hh] at f2;rw[cell_of_heap FM,aX _ _ _ _ (by rw[yl];omega),Bu AP];exact f2
     ·rw[Ks b' BB] at hc
      obtain⟨f1,u,f2,f3⟩:=h.wsat.sat b' o' c hc;exact⟨f1,u,(cell_congr (Hz b' BB) o').trans f2,f3.mono hle (aG _)⟩⟩
    refine⟨.slice (some ⟨b,o,none⟩) (AR+n) BR,w',Z',ow,?_,?_,?_,?_⟩
    ·simp[Builtin.append_,h1,h2,run_underlying FD,run_underlying EG,run_sizeOf BC,Builtin.lenOf,yc,C7,cE,A7]
    ·refine⟨h.size,hws,λu=>?_,h.refs,h.boxes,h.objs.mono hle (λi _=>CA true i (by simp)),λb' BB=>by rw[hsize];exact h.lt b' BB,by rw[hsize];exact h.base,h.hi⟩
     rcases Dh u an.nt with hu|hu
     ·exact(h.slots u).mono hle (aG _) (CA false u (by simp;omega)) (λ_ _ _=>rfl)
     ·rw[h.hi u hu];exact .dead _
    ·refine⟨?_,OP,_,_,_,rfl,.inr ⟨b,o,_,E',rfl,C0,FM,hB,?_,?_⟩⟩
     ·refine .of_rows (s:=sz) (by simp[hl,Gu]) C7 OP λ_=>⟨b,o,rfl,λp c hc=>?_⟩
      rw[j7,Ck,hflen] at hc
      split at hc
      ·rename_i hp
       have Sl:xs≠[]:=by intro e;subst e;simp at hl;subst hl;simp at hp
       obtain⟨b1,o1,e1,ht⟩:=JQ Sl;obtain⟨rfl,rfl⟩:b=b1/\o=o1:=by simpa using e1
       exact hle _ _ _ (ht p c hc)
      ·rename_i hp
       have Ix:p-AR*sz<n*sz:=by rw[<-hylen];exact(Ab.1 hc).1
       have:b=b/\o+AR*sz<=o+p/\o+p<o+AR*sz+n*sz:=⟨rfl,by omega,by omega⟩
       simp only[Z',Bu this];rw[show o+p-(o+AR*sz)=p-AR*sz by omega];exact hc
     ·show o+BR*sz<=(overwrite cs (o+AR*sz) yv).length
      rw[aR _ _ _ (by rw[yl];omega)];exact hcap'
     ·intro o' E7
      have:¬(b=b/\o+AR*sz<=o'/\o'<o+AR*sz+n*sz):=λe=>by have:=e.2.2;omega
      simp only[Z',Bc this];exact CH o' (by omega)
    ·exact⟨hle,by rw[hsize];exact Af _,λb' _ BB=>by
      have BD:b'≠b:=λe=>by subst e;rw[C0] at BB;cases BB
      exact⟨Hz b' BD,Ks b' BD⟩,λ_ BB=>.inl BB,by rw[<-DO];rfl,by rw[<-DO];rfl,by rw[<-DO];rfl⟩
 ·
  obtain⟨xv,xl,xc,xr⟩:∃xv:List Value,xv.length=AR*sz/\(∀w1:World,w1.heap=w.heap->(Builtin.firstCells sz AR (.slice base AR BR)).run P w1=.ok ⟨xv⟩ w1)/\∀(p:Nat) c u,(aZ xs)[p]?=some c->xv[p]?=some u->flat c=true/\VRel Ψ [] c u:=by
   by_cases BD:xs=[]
   ·subst BD
    simp at hl;subst hl;refine⟨[],by simp,λw1 _=>?_,by simp⟩;cases base with
    |none=>simp[Builtin.firstCells]
    |some a=>simp[Builtin.firstCells,loadCells,loadCellsFrom]
   ·obtain⟨b,o,rfl,ht⟩:=JQ BD
    obtain⟨xv,l1,l2,_,l4⟩:=h.wsat.row ht;have hxl:xv.length=AR*sz:=by rw[l1,hflen]
    exact⟨xv,hxl,λw1 e=>dG hxl (λp u hu=>(cell_congr (by rw[e]) _).trans (l2 p u hu)),l4⟩
  have yc':∀w1:World,w1.heap=w.heap->(Builtin.firstCells sz n (.slice xa n JG)).run P w1=.ok ⟨yv⟩ w1:=λw1 e=>by
   by_cases BD:ys=[]
   ·subst BD
    simp at Gu;subst Gu
    have:yv=[]:=by cases yv with|nil=>rfl|cons a b=>simp at yl
    subst this;cases xa with
    |none=>simp[Builtin.firstCells]
    |some a=>simp[Builtin.firstCells,loadCells,loadCellsFrom]
   ·obtain⟨b,o,rfl,ht⟩:=LS BD
    obtain⟨WK,l1,l2,_,l4⟩:=h.wsat.row ht;have hyl:WK.length=n*sz:=by rw[l1,hylen]
    have e1:=dG (P:=P) (cap:=JG) hyl l2;rw[yc] at e1;obtain rfl:yv=WK:=by simpa using e1
    exact dG hyl (λp u hu=>(cell_congr (by rw[e]) _).trans (l2 p u hu))
  have J7:=nextslicecap_le (need:=AR+n) (c:=BR) (by omega);have hroom':AR+n<=4294967296:=by rw[<-hl,<-Gu];exact GJ
  have hby':aC P e=ti.bytes:=(M3 ti G9).symm
  have Jv:¬Builtin.nextslicecap (AR+n) BR*ti.bytes>2^48:=by
   have h1:Builtin.nextslicecap (AR+n) BR*ti.bytes<=(2*(AR+n)+512)*16384:=Nat.mul_le_mul J7 (by rw[<-hby'];exact Lf);omega
  have HU:¬ti.bytes=0:=by rw[<-hby'];omega
  obtain⟨AZ,hnc,ID⟩:∃AZ,AR+n<=AZ/\(Question.appendCap (AR+n) BR e).cut (w.tape w.drawn (Question.appendCap (AR+n) BR e))=AZ :=
   ⟨_,by simp only[Question.cut];omega,rfl⟩
  obtain⟨w1,GX⟩:∃w1,w1=w.drew:=⟨_,rfl⟩
  have hw1h:w1.heap=w.heap:=by rw[GX];rfl
  have hw1o:w1.os=w.os:=by rw[GX];rfl
  have hw1t:w1.tape=w.tape:=by rw[GX];rfl
  have hw1u:w1.output=w.output:=by rw[GX];rfl
  have Oh:(Question.appendCap (AR+n) BR e).forced=false:=rfl;have h':=h.heap hw1h
  let cells:List Value:=xv++yv++(Builtin.zeroCells z.cells (AZ-(AR+n))).toList
  have BM:cells.length=AZ*sz:=by
   have e1:AZ*sz=(AR+n)*sz+(AZ-(AR+n))*sz:=by rw[<-Cr];congr 1;omega
   simp only[cells,Bm,xl,yl,Array.length_toList,jH,IP];rw[e1,Cr]
  have BA:(Builtin.append_ ts ty #[.slice base AR BR,.slice xa n JG]).run P w=.ok (.slice (some ⟨w1.heap.size,0,none⟩) (AR+n) AZ) (w1.alloc (.cells ⟨cells⟩ e)):=by
   simp only[Builtin.append_,Sem.run_bind,h1,h2];simp[run_underlying FD,run_underlying EG,run_sizeOf BC,Builtin.lenOf,C7,run_typeInfo G9,HU,Jv,Oh,ID,<-GX,xc w1 hw1h,yc' w1 hw1h,aU hz,newRow,cells];congr 2;apply Cp;simp
  let τ:Nat->Option AVal:=λoff=>(aZ (xs++ys))[off]?
  have hτ:∀off c,τ off=some c->flat c=true/\∃u,(w1.alloc (.cells ⟨cells⟩ e)).cell? ⟨w1.heap.size,off,none⟩=some u/\VRel Ψ [] c u:=λoff c hc=>by
   have CN:(w1.alloc (.cells ⟨cells⟩ e)).cell? ⟨w1.heap.size,off,none⟩=cells[off]?:=cell_of_heap (heap_alloc_new _) off;simp only[τ] at hc;rw[j7,Ck,hflen] at hc
   split at hc
   ·rename_i hp
    have GW:off<xv.length:=by rw[xl];exact hp
    obtain⟨f1,f2⟩:=xr off c xv[off] hc (by simp[GW]);refine⟨f1,xv[off],?_,f2⟩;rw[CN];simp only[cells,Aj];rw[Az GW];simp[GW]
   ·rename_i hp
    have Ix:off-AR*sz<yv.length:=by rw[yl,<-hylen];exact(Ab.1 hc).1
    obtain⟨f1,f2⟩:=yr _ c yv[off-AR*sz] hc (by simp[Ix]);refine⟨f1,yv[off-AR*sz],?_,f2⟩;rw[CN];simp only[cells,Aj];rw[Bi (by rw[xl];omega),xl,Az Ix];simp[Ix]
  have hR:=h'.alloc (o:=.cells ⟨cells⟩ e) (τ:=τ) (id:=some (false,an.nt,1)) hτ;refine⟨_,_,_,_,BA,hR,⟨?_,OP,_,_,_,rfl,.inr ⟨w1.heap.size,0,⟨cells⟩,e,rfl,by simp[oset],heap_alloc_new _,h'.base,by simpa using Nat.le_of_eq BM.symm,?_⟩⟩,?_⟩
  ·refine .of_rows (s:=sz) (by simp[hl,Gu]) hnc OP λ_=>⟨_,_,rfl,λp c hc=>?_⟩
   simpa[fD,τ] using hc
  ·intro o' E7
   simp only[fD,Ds,τ]
   have Iy:(aZ (xs++ys))[o']?=none:=by
    rw[Du,cB OP];simp[hl,Gu] at E7 ⊢;omega
   rw[Iy];funext c;exact propext ⟨λe=>(by cases e),λe=>(e:False).elim⟩
  ·exact(Fr.heap hw1h hw1o hw1t hw1u).trans (Fr.alloc h'.wsat)
end
section
variable {P:Program}{ans:FuncId->AF}{an:AF}{w:World}{B0:Nat}{Ψ:HT}{J:List Nat}{ow:Own}{tmps:Array Value}{R:Type}{r:R}
variable {tm:List Slot}{rs:RS}{dst:Option Nat}{m:Machine}{mk mp:Value->World->Machine}{kp:AVal->RS->Option R}{k:Slot->RS->Option R}{ds:List Deferred}
theorem mW(h:Rel P ans B0 w Ψ J ow an (sl an tm rs) tmps rs.sto.objs):∀{ps:List (Nat×Operand)}{k:List (Nat×AVal)->Option R},gF an.keep tm rs ps k=some r ->
  ∃l,k l=some r/\l.length=ps.length/\∀(n:Nat)(p:Nat×AVal)(q:Nat×Operand),l[n]?=some p->ps[n]?=some q->p.1=q.1/\VRel Ψ J p.2 ((⟨tmps,ds⟩:Act).eval q.2)
 |[],k,e=>⟨[],by simpa[gF] using e,rfl,λn p q hp=>by simp at hp⟩
 |(i,x)::ps,k,e=>by
  simp only[gF] at e;obtain⟨t,hs,_⟩:=bG (ds:=ds) h x;obtain⟨y,e1,hy⟩:=lU hs e;obtain⟨l,e2,hl,hr⟩:=mW h e1;refine⟨(i,y)::l,e2,by simp[hl],λn p q hp hq=>?_⟩;cases n with
  |zero=>simp at hp hq;subst hp;subst hq;exact⟨rfl,hy⟩
  |succ n=>simp at hp hq;exact hr n p q hp hq
theorem y9:∀(l:List Value)(k off:Nat)(cells:Array Value),off+k+l.length<=cells.size ->
  (l.zipIdx k).foldl (λcs (p:Value×Nat)=>cs.setIfInBounds (off+p.2) p.1) cells=⟨overwrite cells.toList (off+k) l⟩
 |[],k,off,cells,_=>by simp[overwrite]
 |v::l,k,off,cells,h=>by
  simp only[An] at h;rw[List.zipIdx_cons,Ek,y9 l (k+1) off (cells.setIfInBounds (off+k) v) (by simp;omega)];congr 1;have AL:off+k<cells.toList.length:=by simp;omega
  unfold overwrite;rw[show off+(k+1)=off+k+1 by omega,Array.toList_setIfInBounds,Ff (by simpa using AL)];simp only[Gm,An];rw[List.take_set_of_le (Af _),List.drop_set_of_lt (by omega)];simp[show off+k+1+l.length=off+k+(l.length+1) by omega]
theorem iU(cells:Array Value)(off:Nat)(v:Value)(h:off+v.cells.size<=cells.size) :
  v.cells.zipIdx.foldl (λcs (c,j)=>cs.setIfInBounds (off+j) c) cells=⟨overwrite cells.toList off v.cells.toList⟩:=by
 have:=y9 v.cells.toList 0 off cells (by simpa using h)
 rw[<-Dq,Array.toList_zipIdx];simpa using this
theorem uq{place:Nat->Option (Nat×Nat)}{i0:Nat}:∀{l:List (Nat×AVal)}{lv:List (Nat×Value)}{cs BT:List Cell}{vs:List Value},eY place cs l=some BT->l.length=lv.length ->
  (∀(n:Nat) p q,l[n]?=some p->lv[n]?=some q->p.1=q.1/\VRel Ψ J p.2 q.2)->CsRel w B0 Ψ J ow false i0 cs vs ->
  ∃CE,Instr.fill place ⟨vs⟩ lv=some ⟨CE⟩/\CsRel w B0 Ψ J ow false i0 BT CE
 |[],[],cs,BT,vs,e,_,_,hc=>by simp[eY] at e;subst e;exact⟨vs,rfl,hc⟩
 |[],_::_,_,_,_,_,hl,_,_=>by simp at hl
 |_::_,[],_,_,_,_,hl,_,_=>by simp at hl
 |(i,x)::l,(i',v)::lv,cs,BT,vs,e,hl,hr,hc=>by
  obtain⟨hi,hx⟩:=hr 0 (i,x) (i',v) (by simp) (by simp);simp only at hi hx;subst hi;simp only[eY] at e;obtain⟨⟨off,s⟩,hp,e⟩:=aH e;simp only at e;cases CI:Nat.beq x.cells.length s&&Nat.ble (off+s) cs.length with
  |false=>simp[CI] at e
  |true =>
   simp only[CI,Bl] at e;simp only[Ac] at CI;have h1:x.cells.length=s:=Aa CI.1;have h2:off+s<=cs.length:=Ad CI.2;have K9:=hx.csRel (w:=w) (B0:=B0) (ow:=ow) false i0;have hlen:v.cells.toList.length=s:=by rw[<-h1];simpa using K9.1.symm
   have hvl:vs.length=cs.length:=hc.1.symm
   have EJ:CsRel w B0 Ψ J ow false i0 (cs.take off++x.cells.map .val++cs.drop (off+x.cells.length)) (overwrite vs off v.cells.toList):=by
    have heq:cs.take off++x.cells.map .val++cs.drop (off+x.cells.length)=overwrite cs off (x.cells.map .val):=by simp[overwrite]
    rw[heq];refine⟨by rw[aR _ _ _ (by simp;omega),aR _ _ _ (by rw[hlen];omega)];exact hc.1,λj c u Ja LX=>?_⟩;rw[aX _ _ _ _ (by simp;omega)] at Ja;rw[aX _ _ _ _ (by rw[hlen];omega),hlen,<-h1] at LX;simp only[Ay] at Ja;by_cases g1:j<off
    ·rw[Bu g1] at Ja LX;exact hc.2 j c u Ja LX
    ·rw[Bc g1] at Ja LX
     by_cases g2:j<off+x.cells.length
     ·rw[Bu g2] at Ja LX
      have:=K9.2 (j-off) c u Ja LX
      simp only[Av,Ap] at Ja;obtain⟨c',_,rfl⟩:=Ja;cases this with|val _ _ a b=>exact .val _ _ a b
     ·rw[Bc g2] at Ja LX;exact hc.2 j c u Ja LX
   obtain⟨CE,f1,f2⟩:=uq e (by simpa using hl) (λn p q Ii Jr=>hr (n+1) p q (by simpa using Ii) (by simpa using Jr)) EJ;refine⟨CE,?_,f2⟩;have BC:v.cells.size=s:=by simpa using hlen
   simp only[Instr.fill,hp];rw[Bc (by simp[BC];omega),iU _ _ _ (by simp;omega)];exact f1
theorem aBS(h:Rel P ans B0 w Ψ J ow an (sl an tm rs) tmps rs.sto.objs){t:TypeId}{parts:Array (Nat×Operand)}{cs z:List Cell}{l:List (Nat×AVal)}(hz:zeroCells P t=some z)(hl:l.length=parts.toList.length)
  (hr:∀(n:Nat)(p:Nat×AVal)(q:Nat×Operand),l[n]?=some p->parts.toList[n]?=some q->p.1=q.1/\VRel Ψ J p.2 ((⟨tmps,ds⟩:Act).eval q.2)) {place:Nat->Option (Nat×Nat)} (hf:eY place z l=some cs)
  (hb:∀zv,(P.info? t).bind (·.zero)=some zv->P.built t (parts.map λ(i,x)=>(i,(⟨tmps,ds⟩:Act).eval x)).toList=Instr.fill place zv.cells (parts.map λ(i,x)=>(i,(⟨tmps,ds⟩:Act).eval x)).toList) :
  ∃vs,(Instr.build t (parts.map λ(i,x)=>(i,(⟨tmps,ds⟩:Act).eval x))).run P w=.ok (.agg ⟨vs⟩) w/\CsRel w B0 Ψ J ow false an.nt cs vs:=by
 obtain⟨zv,IM,Ic⟩:=oC (w:=w) (B0:=B0) (Ψ:=Ψ) (J:=J) (ow:=ow) hz false an.nt
 obtain⟨CE,f1,f2⟩:=uq (lv:=(parts.map λ(i,x)=>(i,(⟨tmps,ds⟩:Act).eval x)).toList) hf (by simpa using hl) (λn p q hp hq=>by
  simp only[Fo,Av,Ap] at hq;obtain⟨q',Jr,rfl⟩:=hq;exact hr n p q' hp Jr) Ic
 refine⟨CE,run_build w t _ ⟨CE⟩ ?_,f2⟩;rw[hb zv IM];exact f1
theorem sK{s:Nat}:∀{l:List (Nat×AVal)}{lv:List (Nat×Value)}{xs Hn:List AVal}{vs:List Value},b9 s xs l=some Hn->l.length=lv.length ->
  (∀(n:Nat) p q,l[n]?=some p->lv[n]?=some q->p.1=q.1/\VRel Ψ J p.2 q.2)->(∀x∈xs,x.cells.length=s/\clean x=true) ->
  ((aZ xs).length=vs.length/\∀(p:Nat) c v,(aZ xs)[p]?=some c->vs[p]?=some v->VRel Ψ [] c v) ->
  ∃CE,Instr.fill (λi=>some (i*s,s)) ⟨vs⟩ lv=some ⟨CE⟩/\Hn.length=xs.length/\(∀x∈Hn,x.cells.length=s/\clean x=true) /\
   ((aZ Hn).length=CE.length/\∀(p:Nat) c v,(aZ Hn)[p]?=some c->CE[p]?=some v->VRel Ψ [] c v)
 |[],[],xs,Hn,vs,e,_,_,hx,hc=>by simp[b9] at e;subst e;exact⟨vs,rfl,rfl,hx,hc⟩
 |[],_::_,_,_,_,_,hl,_,_,_=>by simp at hl
 |_::_,[],_,_,_,_,hl,_,_,_=>by simp at hl
 |(i,x)::l,(i',v)::lv,xs,Hn,vs,e,hl,hr,hx,hc=>by
  obtain⟨hi,K9⟩:=hr 0 (i,x) (i',v) (by simp) (by simp);simp only at hi K9;subst hi;simp only[b9] at e;cases CI:Nat.beq x.cells.length s&&Nat.blt i xs.length&&clean x with
  |false=>simp[CI] at e
  |true =>
   simp only[CI,Bl] at e;simp only[Ac] at CI;have h1:x.cells.length=s:=Aa CI.1.1;have h2:i<xs.length:=by have:=CI.1.2;simpa[Ct] using this
   have hvc:v.cells.toList.length=s:=by rw[<-h1];simpa using(K9.cells).1.symm
   have Lz:∀y∈xs,y.cells.length=s:=λy hy=>(hx y hy).1
   have Ie:∀y∈xs.set i x,y.cells.length=s/\clean y=true:=λy hy=>by
    rcases List.mem_or_eq_of_mem_set hy with h'|h'
    ·exact hx y h'
    ·subst h';exact⟨h1,CI.2⟩
   have XH:∀y∈xs.set i x,y.cells.length=s:=λy hy=>(Ie y hy).1
   have Kj:(aZ xs).length=xs.length*s:=cB Lz
   have hmul:i*s+s<=xs.length*s:=by
    have:=Cq s (show i+1<=xs.length by omega)
    rw[Cr] at this;omega
   have hvl:i*s+s<=vs.length:=by rw[<-hc.1,Kj];exact hmul
   have fD:(aZ (xs.set i x)).length=(overwrite vs (i*s) v.cells.toList).length/\∀(p:Nat) c u,(aZ (xs.set i x))[p]?=some c->(overwrite vs (i*s) v.cells.toList)[p]?=some u->VRel Ψ [] c u:=by
    refine⟨by rw[cB XH,aR _ _ _ (by rw[hvc];exact hvl),<-hc.1,Kj];simp,λp c u DB MH=>?_⟩;obtain⟨a,j,y,rfl,hj,OO,XG⟩:=gM XH DB;rw[aX _ _ _ _ (by rw[hvc];exact hvl),hvc] at MH;rw[Cb] at OO;by_cases TW:i=a
    ·subst TW
     simp[h2] at OO;subst OO;rw[Bc (by omega),Bu (by omega),show i*s+j-i*s=j by omega] at MH;exact((K9.clean (J':=[]) CI.2).cells).2.2 j c u XG (by simpa using MH)
    ·rw[Bc TW] at OO
     have BD:¬(i*s<=a*s+j/\a*s+j<i*s+s):=by
      rintro⟨g1,g2⟩
      rcases Nat.lt_or_gt_of_ne TW with h'|h'
      ·have:=Cq s (show i+1<=a by omega);rw[Cr] at this;omega
      ·have:=Cq s (show a+1<=i by omega);rw[Cr] at this;omega
     have hpu':vs[a*s+j]?=some u:=by
      by_cases g1:a*s+j<i*s
      ·rw[Bu g1] at MH;exact MH
      ·rw[Bc g1,Bc (by omega)] at MH;exact MH
     exact hc.2 (a*s+j) c u (by rw[gL Lz OO hj];exact XG) hpu'
   obtain⟨CE,f1,f2,f3,f4⟩:=sK e (by simpa using hl) (λn p q Ii Jr=>hr (n+1) p q (by simpa using Ii) (by simpa using Jr)) Ie fD;refine⟨CE,?_,by simpa using f2,f3,f4⟩;have BC:v.cells.size=s:=by simpa using hvc
   simp only[Instr.fill];rw[Bc (by simp[BC];omega),iU _ _ _ (by simp[BC];omega)];exact f1
theorem nQ(n:Nat)(z:AVal):∀(p:Nat) c,(aZ (List.replicate n z))[p]?=some c->z.cells[p%z.cells.length]?=some c:=by
 intro p c h;obtain⟨i,j,x,rfl,hj,hx,hc⟩:=gM (s:=z.cells.length) (λx hx=>by rw[Ep hx]) h
 have:x=z:=Ep (Ba hx)
 subst this;rw[Gj,Nat.mul_add_mod,Fk hj];exact hc
theorem x8(h:Rel P ans B0 w Ψ J ow an (sl an tm rs) tmps rs.sto.objs){t e:TypeId}{len s:Nat}{parts:Array (Nat×Operand)}{z:AVal}{xs:List AVal}{l:List (Nat×AVal)}(he:P.underlying t=some (.slice e))(hs:aP P e=some s)(CG:0<s)(Sw:len*s<=16777216)
  (hz:zeroOf P e=some z) (IP:z.cells.length=s) (hzc:clean z=true) (hl:l.length=parts.toList.length)
  (hr:∀(n:Nat)(p:Nat×AVal)(q:Nat×Operand),l[n]?=some p->parts.toList[n]?=some q->p.1=q.1/\VRel Ψ J p.2 ((⟨tmps,ds⟩:Act).eval q.2)) (hf:b9 s (List.replicate len z) l=some xs) :
  ∃v w' Z',(Instr.buildSlice t len (parts.map λ(i,x)=>(i,(⟨tmps,ds⟩:Act).eval x))).run P w=.ok v w'/\Rel P ans B0 w' Z' J ow an (sl an tm rs) tmps rs.sto.objs/\SRel w' B0 Z' J ow tmps an.nt (.full xs) v/\Fr w Ψ ow w' Z' ow:=by
 simp only[zeroOf,Cv] at hz;obtain⟨zv,⟨ti,G9,K8⟩,IM⟩:=hz;have LQ:VRel Ψ [] z zv:=iO IM;have hzsz:zv.cells.size=s:=by rw[<-IP];exact(LQ.cells).1.symm
 have XE:∀x∈List.replicate len z,x.cells.length=s/\clean x=true:=λx hx=>by rw[Ep hx];exact⟨IP,hzc⟩
 let init:List Value:=(List.range (len*s)).map λp=>zv.cells[p%zv.cells.size]!
 have hinit:(aZ (List.replicate len z)).length=init.length/\∀(p:Nat) c v,(aZ (List.replicate len z))[p]?=some c->init[p]?=some v->VRel Ψ [] c v:=by
  refine⟨by rw[cB (λx hx=>(XE x hx).1)];simp[init],λp c v hc hv=>?_⟩;have hp:p<len*s:=by have:=(Ab.1 hv).1;simpa[init] using this
  simp only[init,Av,Ce hp,Bw,Al] at hv;have CW:=nQ len z p c hc;rw[IP] at CW;have hm:p%s<zv.cells.size:=by rw[hzsz];exact Et _ CG
  rw[hzsz] at hv;refine(LQ.cells).2.2 (p%s) c v CW ?_;rw[<-hv];simp[hm]
 obtain⟨CE,f1,f2,f3,f4⟩:=sK (lv:=(parts.map λ(i,x)=>(i,(⟨tmps,ds⟩:Act).eval x)).toList) (Ψ:=Ψ) (J:=J) hf (by simpa using hl) (λn p q hp hq=>by
  simp only[Fo,Av,Ap] at hq;obtain⟨q',Jr,rfl⟩:=hq;exact hr n p q' hp Jr) XE hinit
 have E0:∀x∈xs,x.cells.length=s:=λx hx=>(f3 x hx).1
 have BA:(Instr.buildSlice t len (parts.map λ(i,x)=>(i,(⟨tmps,ds⟩:Act).eval x))).run P w=.ok (.slice (some ⟨w.heap.size,0,none⟩) len len) (w.alloc (.cells ⟨CE⟩ e)):=by
  have DF:(Array.range (len*s)).map (λp=>zv.cells[p%zv.cells.size]!)=⟨init⟩:=by
   apply Cp;simp[init]
  by_cases h0:len*s=0
  ·have hlen0:len=0:=by rcases Nat.mul_eq_zero.1 h0 with h'|h'
                        ·exact h'
                        ·omega
   subst hlen0;have hinit0:init=[]:=by simp[init]
   rw[hinit0] at f1;have harr0:(#[]:Array Value)=⟨[]⟩:=rfl;simp only[Instr.buildSlice,Sem.run_bind,run_underlying he,Result.andThen_ok,run_sizeOf hs];simp;have Mh:Instr.fill (λi=>some (i*s,s)) #[] (parts.map λ(i,x)=>(i,(⟨tmps,ds⟩:Act).eval x)).toList=some ⟨CE⟩:=f1;simp at Mh;have MG:Array.map (λ_:Nat=>(default:Value)) (Array.range 0)=#[]:=by apply Cp;simp
   simp[MG,Mh,newRow]
  ·have hle:¬len*s>2^24:=by omega
   simp only[Instr.buildSlice,Sem.run_bind,run_underlying he,Result.andThen_ok,run_sizeOf hs];have hz0:(P.info? e).bind (·.zero)=some zv:=by rw[G9];exact K8
   rw[<-DF] at f1;simp at f1;simp[h0,hle,aU hz0,f1,newRow]
 have hτ:∀off c,(λoff=>(aZ xs)[off]?) off=some c->flat c=true/\∃v,(w.alloc (.cells ⟨CE⟩ e)).cell? ⟨w.heap.size,off,none⟩=some v/\VRel Ψ [] c v:=λoff c hc=>by
  obtain⟨i,j,x,rfl,hj,hx,Sm⟩:=gM E0 hc;have EI:i*s+j<CE.length:=by rw[<-f4.1];exact(Ab.1 hc).1
  refine⟨?_,CE[i*s+j],?_,f4.2 _ c _ hc (by simp[EI])⟩
  ·have:=(f3 x (Ba hx)).2
   exact As.1 this c (Ba Sm)
  ·rw[cell_of_heap (heap_alloc_new _)];simp[EI]
 have hR:=h.alloc (o:=.cells ⟨CE⟩ e) (τ:=λoff=>(aZ xs)[off]?) (id:=none) hτ;have hF:=Fr.alloc (ow:=ow) (o:=.cells ⟨CE⟩ e) (τ:=λoff=>(aZ xs)[off]?) (id:=none) h.wsat
 have hoo:oset ow w.heap.size none=ow:=by
  funext b;unfold oset;split
  ·subst_vars
   cases e1:ow w.heap.size with
   |none=>rfl
   |some y=>have:=h.lt w.heap.size (by simp[e1]);omega
  ·rfl
 rw[hoo] at hR hF;refine⟨_,_,_,BA,hR,.full xs _ len ?_,hF⟩;have hlen:xs.length=len:=by rw[f2];simp
 exact .of_rows (s:=s) hlen (Af _) E0 λ_=>⟨_,_,rfl,λp c hc=>by simpa[fD] using hc⟩
def Slot.free:Slot->Bool
 |.box _=>false
 |.ref _ _=>false
 |.cells _=>false
 |.dead=>false
 |_=>true
def dS(P:Program)(ans:FuncId->AF)(B0:Nat)(w:World)(Ψ:HT)(J:List Nat)(ow:Own)(sto:AH)(c:Frame)(cs:List Frame)(m:Machine)(res:ARes)(sto':AH):Prop :=
 ∃w' Z' J' AQ,Fr w Ψ ow w' Z' AQ/\pre J J'/\WSat Z' w'/\OsRel w' B0 Z' J' AQ ans sto'.objs/\(∀b,AQ b≠none->b<w'.heap.size)/\StoLe sto sto' /\
  match res with
  |.ret s=>s.free=true/\∃v,SRel w' B0 Z' J' AQ #[] 0 s v/\Steps P m (lone (c.finish v) cs w')
  |.pan x=>∃v,VRel Z' J' x v/\Steps P m (lone (c.raise [{ v,recovered:=false }]) cs w')
structure dR (ans:FuncId->AF) (B0:Nat) (w:World) (Ψ:HT) (J:List Nat) (ow:Own) (args:List Slot) (vs:Array Value) (sto:AH):Prop where
 wsat:WSat Ψ w
 base:B0<=w.heap.size
 lt:∀b,ow b≠none->b<w.heap.size
 size:args.length=vs.size
 free:∀s∈args,s.free=true
 args:∀(i:Nat) s,args[i]?=some s->SRel w B0 Ψ J ow #[] i s (vs.getD i undef)
 objs:OsRel w B0 Ψ J ow ans sto.objs
 lo:sto.lo<=sto.objs.length
structure kI (P:Program) (ans:FuncId->AF) (B0:Nat) (cf:aJ):Prop where
 fn:∀f args sto res sto',cf (.fn f) args sto=some (res,sto') ->
  (∃F,P.funcs[f]?=some F/\F.body.isSome=true/\F.name≠ "runtime.NumGoroutine")/\∀w Ψ J ow vs,dR ans B0 w Ψ J ow args vs sto->∀c cs,dS P ans B0 w Ψ J ow sto c cs (lone (Frame.enter P f vs .normal) (c::cs) w) res sto'
 yld:∀i args sto res sto',cf (.yld i) args sto=some (res,sto') ->
  ∃al,sto.objs[i]?=some (.loop al)/\args.length=al.params.size/\∀w Ψ J ow vs,dR ans B0 w Ψ J ow args vs sto->∀l rr,J[i]?=some l->w.heap[l]?=some (.loop rr)->∀c cs,
   dS P ans B0 w Ψ J ow sto c cs (lone (Frame.round l rr.fn ((rr.params.zip vs).foldl (λt (p,a)=>t.setIfInBounds p a) rr.tmps) rr.assign rr.body .normal) (c::cs) w) res sto'
theorem SRel.free_tmps{tmps':Array Value}{t:Nat}{s:Slot}{v:Value}(h:SRel w B0 Ψ J ow tmps t s v)(hf:s.free=true):SRel w B0 Ψ J ow tmps' t s v :=
 h.mono Ψ.le_refl (aG _) (Same.refl _ _ _ _ _) (λu o e=>by subst e;simp[Slot.free] at hf)
theorem uI:∀{xs:List Operand}{rs:RS}{ow:Own}{i:Nat}{k:List Slot->RS->Option R},Rel P ans B0 w Ψ J ow an (sl an tm rs) tmps rs.sto.objs->lI an.keep tm rs i xs k=some r ->
  ∃l AX AQ,k l AX=some r/\Rel P ans B0 w Ψ J AQ an (sl an tm AX) tmps AX.sto.objs/\AX.sto=rs.sto/\l.length=xs.length/\(∀s∈l,s.free=true) /\
   (∀(j:Nat) s x,l[j]?=some s->xs[j]?=some x->SRel w B0 Ψ J AQ #[] (an.nt+1+i+j) s ((⟨tmps,ds⟩:Act).eval x))/\Fr w Ψ ow w Ψ AQ /\
   (∀q,an.nt<=q->q<an.nt+1+i->Same w Ψ ow w Ψ AQ false q false q)
 |[],rs,ow,i,k,h,e=>⟨[],rs,ow,by simpa[lI] using e,h,rfl,rfl,by simp,λj s x hs=>by simp at hs,Fr.refl _ _ _,λq _ _=>Same.refl _ _ _ _ _⟩
 |x::xs,rs,ow,i,k,h,e=>by
  obtain⟨t,hs,ht⟩:=bG (ds:=ds) h x;simp only[lI] at e;obtain⟨y,e1,hy⟩:=lU hs e;obtain⟨l,AX,AQ,e1,h1,h2,h3,DS,h4,h5,h6⟩:=uI h e1;refine⟨.val y::l,AX,AQ,e1,h1,h2,by simp[h3],λs hs=>?_,λj s z hj hz=>?_,h5,λq O1 Jq=>h6 q O1 (by omega)⟩
  ·rcases Au.1 hs with hs|hs
   ·subst hs;rfl
   ·exact DS s hs
  cases j with
  |zero=>simp at hj hz;subst hj;subst hz;exact .val _ _ hy
  |succ j =>
   simp at hj hz
   have:=h4 j s z hj hz
   rwa [show an.nt+1+(i+1)+j=an.nt+1+i+(j+1) by omega] at this
def pY(nt:Nat)(ow:Own):Own:=λb =>
 match ow b with
 |some (true,i,s)=>some (true,i,s)
 |some (false,t,s)=>if nt+1<=t then some (false,t-(nt+1),s) else none
 |none=>none
def eT(nt:Nat)(ow DY:Own):Own:=λb =>
 match DY b with
 |some (true,i,s)=>some (true,i,s)
 |some (false,t,s)=>some (false,nt+t,s)
 |none=>match ow b with
  |some (false,t,s)=>if t<nt then some (false,t,s) else none
  |_=>none
theorem xb{nt:Nat}{b:Nat}(h:pY nt ow b≠none):ow b≠none:=by intro e;simp[pY,e] at h
theorem sW(h:Rel P ans B0 w Ψ J ow an (sl an tm rs) tmps rs.sto.objs)(sto:AH)(Ig:sto.objs=rs.sto.objs)(AP:sto.lo<=sto.objs.length){l:List Slot}{xs:List Operand}(hl:l.length=xs.length)(DS:∀s∈l,s.free=true)
  (ha:∀(j:Nat) s x,l[j]?=some s->xs[j]?=some x->SRel w B0 Ψ J ow #[] (an.nt+1+0+j) s ((⟨tmps,ds⟩:Act).eval x)) {caps:List AVal} {cv:List Value} (BM:caps.length=cv.length)
  (hc:∀(i:Nat) c v,caps[i]?=some c->cv[i]?=some v->VRel Ψ J c v) :
  dR ans B0 w Ψ J (pY an.nt ow) (l++caps.map .val) ⟨xs.map (⟨tmps,ds⟩:Act).eval++cv⟩ sto where
 wsat:=h.wsat
 base:=h.base
 lt:=λb hb=>h.lt b (xb hb)
 size:=by simp[hl,BM]
 free:=λs hs=>by
  rcases Bn.1 hs with hs|hs
  ·exact DS s hs
  ·obtain⟨c,_,rfl⟩:=Cm.1 hs;rfl
 args:=λi s hs=>by
  have CA:Same w Ψ ow w Ψ (pY an.nt ow) false (an.nt+1+0+i) false i:=λb s hb=>by
   refine⟨?_,rfl,λ_ h=>h⟩;simp only[pY,hb];rw[Bu (by omega)];congr 3;omega
  rw[Ck] at hs
  split at hs
  ·rename_i hi
   have DZ:i<xs.length:=by rw[<-hl];exact hi
   have hg:(⟨xs.map (⟨tmps,ds⟩:Act).eval++cv⟩:Array Value).getD i undef=(⟨tmps,ds⟩:Act).eval xs[i]:=by
    simp[Ae,Ck,DZ]
   rw[hg];exact(ha i s xs[i] hs (by simp[DZ])).mono Ψ.le_refl (aG _) CA (λ_ _ _=>rfl)
  ·rename_i hi
   rw[Av,Ap] at hs;obtain⟨c,Jz,rfl⟩:=hs;have AL:i-l.length<cv.length:=by rw[<-BM];exact(Ab.1 Jz).1
   have hg:(⟨xs.map (⟨tmps,ds⟩:Act).eval++cv⟩:Array Value).getD i undef=cv[i-l.length]:=by
    simp only[Ae,List.getElem?_toArray];rw[Bi (by simp;omega)];simp[<-hl,AL]
   rw[hg];exact .val _ _ (hc _ c _ Jz (by simp[AL]))
 objs:=by
  rw[Ig];exact h.objs.mono Ψ.le_refl λi _ b s hb=>⟨by simp[pY,hb],rfl,λ_ h=>h⟩
 lo:=AP
theorem uS(h:Rel P ans B0 w Ψ J ow an (sl an tm rs) tmps rs.sto.objs){w':World}{Z':HT}{J':List Nat}{DY:Own}(hF:Fr w Ψ (pY an.nt ow) w' Z' DY)(hp:pre J J')(hw:WSat Z' w'){EO:List AObj}{J2:List Nat}(Ix:pre J J2)
  (ho:OsRel w' B0 Z' J2 DY ans EO) (AL:∀b,DY b≠none->b<w'.heap.size) :
  Rel P ans B0 w' Z' J2 (eT an.nt ow DY) an (sl an tm rs) tmps EO/\Fr w Ψ ow w' Z' (eT an.nt ow DY):=by
 have O7:∀b,b<w.heap.size->pY an.nt ow b=none->DY b=none:=λb hb hn=>by
  cases e:DY b with
  |none=>rfl
  |some x =>
   rcases hF.own b (by simp[e]) with h'|h'
   ·exact absurd hn h'
   ·omega
 have Ko:∀u,u<an.nt->Same w Ψ ow w' Z' (eT an.nt ow DY) false u false u:=λu hu b s hb=>by
  have BB:=h.lt b (by simp[hb])
  have G3:pY an.nt ow b=none:=by
   simp only[pY,hb];rw[Bc (by omega)]
  have hr:=O7 b BB G3;obtain⟨k1,k2⟩:=hF.keep b BB G3;exact⟨by simp[eT,hr,hb,hu],k1,λo ho=>by rw[k2 o];exact ho⟩
 have JV:∀i,Same w' Z' DY w' Z' (eT an.nt ow DY) true i true i:=λi b s hb=>⟨by simp[eT,hb],rfl,λ_ h=>h⟩
 refine⟨⟨h.size,hw,λu=>?_,h.refs,h.boxes,ho.mono Z'.le_refl (λi _=>JV i),λb hb=>?_,Bg h.base hF.size,h.hi⟩,⟨hF.le,hF.size,λb hb hn=>hF.keep b hb (by simp[pY,hn]),λb hb=>?_,hF.os,hF.tape,hF.output⟩⟩
 ·rcases Dh u an.nt with h2|h2
  ·exact(h.slots u).mono hF.le Ix (Ko u h2) (λ_ _ _=>rfl)
  ·rw[h.hi u h2];exact .dead _
 ·cases e:DY b with
  |some x=>exact AL b (by simp[e])
  |none =>
   have:ow b≠none:=by
    intro e2;simp[eT,e,e2] at hb
   exact Bt (h.lt b this) hF.size
 ·cases e:DY b with
  |some x =>
   rcases hF.own b (by simp[e]) with h'|h'
   ·exact .inl (xb h')
   ·exact .inr h'
  |none =>
   left;intro e2;simp[eT,e,e2] at hb
end
end Go.AM
