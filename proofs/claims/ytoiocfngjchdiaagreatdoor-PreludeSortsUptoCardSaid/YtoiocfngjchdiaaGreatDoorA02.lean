import Derived.Test.YtoiocfngjchdiaaGreatDoorA01
import Derived.Laws.Tables
set_option linter.all false
namespace Go.AM
section
variable {P:Program}{ans:FuncId->AF}{an:AF}{w:World}{B0:Nat}{Ψ:HT}{J:List Nat}{ow:Own}{tmps:Array Value}{R:Type}{r:R}
variable {tm:List Slot}{rs:RS}{dst:Option Nat}{m:Machine}{mk mp:Value->World->Machine}{kp:ae->RS->Option R}{k:Slot->RS->Option R}{ds:List Deferred}
def fM(Ψ:HT)(n:Nat)(τ:Nat->Option ae):HT:=λb o=>if b=n then(λc=>τ o=some c) else Ψ b o
def oset(ow:Own)(n:Nat)(id:Option IM):Own:=λb=>if b=n then id else ow b
theorem qG(h:c_ Ψ w)(τ:Nat->Option ae):Ψ.le (fM Ψ w.heap.size τ):=λb o c e=>by
 have:=h.lt e
 simp[fM,show ¬b=w.heap.size by omega,e]
theorem rY(h:c_ Ψ w):fM Ψ w.heap.size (λ_=>none)=Ψ:=by
 funext b o;unfold fM;split
 ·subst_vars
  rw[h.vO (Ae _) o];funext c;exact propext ⟨λe=>(by cases e),λe=>(e:False).elim⟩
 ·rfl
theorem lW{o:Obj}{τ:Nat->Option ae}{id:Option IM}(AL:∀b,ow b≠none->b<w.heap.size)(kk:Bool)(i:Nat) :
  e_ w Ψ ow (w.alloc o) (fM Ψ w.heap.size τ) (oset ow w.heap.size id) kk i kk i:=λb s hb=>by
 have h1:=AL b (by simp[hb]);have h2:¬b=w.heap.size:=by omega
 exact⟨by simp[oset,h2,hb],heap_alloc_old _ h1,λo h=>by simp[fM,h2,h]⟩
theorem Fr.alloc{o:Obj}{τ:Nat->Option ae}{id:Option IM}(hw:c_ Ψ w):Fr w Ψ ow (w.alloc o) (fM Ψ w.heap.size τ) (oset ow w.heap.size id) :=
 ⟨qG hw τ,by simp,λb hb _=>⟨heap_alloc_old _ hb,λo=>by simp[fM,show ¬b=w.heap.size by omega]⟩,λb hb=>by
  by_cases h:b=w.heap.size
  ·exact .inr (by omega)
  ·exact .inl (by simpa[oset,h] using hb),rfl,rfl,rfl⟩
theorem c_.alloc{o:Obj}{τ:Nat->Option ae}(hw:c_ Ψ w)(hτ:∀off c,τ off=some c->flat c=true/\∃v,(w.alloc o).cell? ⟨w.heap.size,off,none⟩=some v/\am Ψ [] c v) :
  c_ (fM Ψ w.heap.size τ) (w.alloc o):=⟨by have:=hw.kS;simp;omega,λb off c e=>by
 by_cases h:b=w.heap.size
 ·subst h
  obtain⟨h1,v,h2,h3⟩:=hτ off c (by simpa[fM] using e);exact⟨h1,v,h2,h3.mono (qG hw τ) (aG _)⟩
 ·have e':Ψ b off c:=by simpa[fM,h] using e
  obtain⟨h1,v,h2,h3⟩:=hw.sat b off c e';exact⟨h1,v,(m8 (heap_alloc_old _ (hw.lt e')) off).trans h2,h3.mono (qG hw τ) (aG _)⟩⟩
theorem Rel.alloc{E:Nat->Slot}{objs:List ai}(h:Rel P ans B0 w Ψ J ow an E tmps objs){o:Obj}{τ:Nat->Option ae}{id:Option IM}
  (hτ:∀off c,τ off=some c->flat c=true/\∃v,(w.alloc o).cell? ⟨w.heap.size,off,none⟩=some v/\am Ψ [] c v) :
  Rel P ans B0 (w.alloc o) (fM Ψ w.heap.size τ) J (oset ow w.heap.size id) an E tmps objs :=
 ⟨h.size,h.b_.alloc hτ,λt=>(h.dr t).mono (qG h.b_ τ) (aG _) (lW h.lt false t) (λ_ _ _=>rfl),h.refs,h.boxes,h.objs.mono (qG h.b_ τ) (λi _=>lW h.lt true i),λb hb=>by
  by_cases e:b=w.heap.size
  ·simp;omega
  ·have:=h.lt b (by simpa[oset,e] using hb);simp;omega,by have:=h.base;simp;omega,h.hi⟩
theorem Rel.heap{E:Nat->Slot}{objs:List ai}(h:Rel P ans B0 w Ψ J ow an E tmps objs){w1:World}(e:w1.heap=w.heap):Rel P ans B0 w1 Ψ J ow an E tmps objs:=by
 have hs:∀kk i,e_ w Ψ ow w1 Ψ ow kk i kk i:=λkk i b s hb=>⟨hb,by rw[e],λ_ h=>h⟩
 exact⟨h.size,⟨by rw[e];exact h.b_.kS,λb o c hc=>by
  obtain⟨h1,v,h2,h3⟩:=h.b_.sat b o c hc;exact⟨h1,v,(m8 (by rw[e]) o).trans h2,h3⟩⟩,λt=>(h.dr t).mono Ψ.le_refl (aG _) (hs false t) (λ_ _ _=>rfl),h.refs,h.boxes,h.objs.mono Ψ.le_refl (λi _=>hs true i),λb hb=>by rw[e];exact h.lt b hb,by rw[e];exact h.base,h.hi⟩
theorem Fr.heap{w1:World}(e:w1.heap=w.heap)(h1:w1.os=w.os)(h2:w1.tape=w.tape)(h3:w1.output=w.output):Fr w Ψ ow w1 Ψ ow :=
 ⟨Ψ.le_refl,by rw[e];exact Ae _,λb _ _=>⟨by rw[e],λ_=>rfl⟩,λ_ h=>.inl h,h1,h2,h3⟩
theorem a2k(kk:Bool)(i:Nat):∀(hs:List (Option Nat))(xs:List ae)(vs:List Value)(j0:Nat),xs.length=vs.length->(∀(j:Nat) x v,xs[j]?=some x->vs[j]?=some v->jD v=some x) ->
  (eR hs xs).length=vs.length/\∀(j:Nat) c v,(eR hs xs)[j]?=some c->vs[j]?=some v->mL w B0 Ψ J ow (kk,i,j0+j+1) c v
 |[],xs,vs,j0,hl,h=>by
  refine⟨by simpa[eR] using hl,λj c v hc hv=>?_⟩;simp only[eR,Aw,Aq] at hc;obtain⟨x,hx,rfl⟩:=hc;obtain⟨h1,h2⟩:=fU (Ψ:=Ψ) (J:=J) (h j x v hx hv);exact .val _ _ h1 h2
 |h::hs,[],vs,j0,hl,_=>by
  refine⟨by simpa[eR] using hl,λj c v hc hv=>by simp[eR] at hc⟩
 |h::hs,x::xs,[],j0,hl,_=>by simp at hl
 |h::hs,x::xs,v::vs,j0,hl,hh=>by
  obtain⟨h1,h2⟩:=a2k kk i hs xs vs (j0+1) (by simpa using hl) (λj y u hy hu=>hh (j+1) y u (by simpa using hy) (by simpa using hu));refine⟨by simp[eR,h1],λj c u hc hu=>?_⟩;cases j with
  |zero =>
   simp[eR] at hc hu;subst hu hc;have ha:=hh 0 x v (by simp) (by simp);obtain⟨g1,g2⟩:=fU (Ψ:=Ψ) (J:=J) ha;unfold y0;split
   ·have hv:v=.slice none 0 0:=by
     unfold jD at ha
     split at ha<;>simp at ha<;>rfl
    subst hv;exact .own _ _ _ (xX _ _)
   ·exact .val _ _ g1 g2
  |succ j =>
   simp[eR] at hc hu
   have:=h2 j c u hc hu
   rwa [show j0+1+j+1=j0+(j+1)+1 by omega] at this
theorem a1R{t:TypeId}{z:List Cell}(h:zeroCells P t=some z)(kk:Bool)(i:Nat):∃v,(P.info? t).bind (·.zero)=some v/\ie w B0 Ψ J ow kk i z v.cells.toList:=by
 simp only[zeroCells,zeroOf,Aq,Da] at h;obtain⟨x,⟨v,⟨a,ha,hv⟩,hx⟩,rfl⟩:=h;refine⟨v,by rw[ha];exact hv,?_⟩
 have key:x.cells.length=v.cells.toList.length/\∀(j:Nat) y u,x.cells[j]?=some y->v.cells.toList[j]?=some u->jD u=some y:=by
  cases v with
  |agg cs =>
   simp only[jE,Aq] at hx;obtain⟨l,hl,rfl⟩:=hx;obtain⟨h1,h2⟩:=rO hl;exact⟨by simpa[ae.cells,Value.cells] using h1,λj y u hy hu=>h2 j y u hy (by simpa[Value.cells] using hu)⟩
  |_ =>
   have hc:=fU (Ψ:=λ_ _=>FZ) (J:=[]) (show jD _=some x by simpa only[jE] using hx);rw[fK hc.1];refine⟨by simp[Value.cells],λj y u hy hu=>?_⟩;cases j with
   |zero=>simp[Value.cells] at hy hu;subst hy;subst hu;simpa only[jE] using hx
   |succ j=>simp at hy
 obtain⟨h1,h2⟩:=a2k (w:=w) (B0:=B0) (Ψ:=Ψ) (J:=J) (ow:=ow) kk i (hints P 8 t) x.cells v.cells.toList 0 key.1 key.2;exact⟨h1,λj c u hc hu=>by have:=h2 j c u hc hu;rwa [Bs] at this⟩
theorem aNM(h:Rel P ans B0 w Ψ J ow an (sl an tm rs) tmps rs.sto.objs){z:List Cell}{vs:List Value}{T:TypeId}(hz:ie w B0 Ψ J ow false an.nt z vs) :
  Rel P ans B0 (w.alloc (.cells ⟨vs⟩ T)) Ψ J (oset ow w.heap.size (some (false,an.nt,0))) an (sl an tm rs) tmps rs.sto.objs /\
  bX (w.alloc (.cells ⟨vs⟩ T)) B0 Ψ J (oset ow w.heap.size (some (false,an.nt,0))) tmps an.nt (.box z) (.pointer (some ⟨w.heap.size,0,none⟩)) /\
  Fr w Ψ ow (w.alloc (.cells ⟨vs⟩ T)) Ψ (oset ow w.heap.size (some (false,an.nt,0))):=by
 have e:=rY h.b_;have h1:=h.alloc (o:=.cells ⟨vs⟩ T) (τ:=λ_=>none) (id:=some (false,an.nt,0)) (λoff c hc=>by cases hc);have h2:=Fr.alloc (ow:=ow) (o:=.cells ⟨vs⟩ T) (τ:=λ_=>none) (id:=some (false,an.nt,0)) h.b_;have h3:=lW (Ψ:=Ψ) (o:=.cells ⟨vs⟩ T) (τ:=λ_=>none) (id:=some (false,an.nt,0)) h.lt false an.nt;rw[e] at h1 h2 h3;refine⟨h1,.box _ _ ⟨by simp[oset],h.base,h.b_.vO (Ae _),vs,T,heap_alloc_new _,hz.mono Ψ.le_refl (aG _) h3⟩,h2⟩
theorem i_.push{w':World}{Z':HT}{AO:Own}{objs:List ai}{b:Nat}{ob:ai}(h:i_ w B0 Ψ J ow ans objs)(hΨ:Ψ.le Z')(hs:∀i,i<objs.length->e_ w Ψ ow w' Z' AO true i true i)
  (hn:m6 w' B0 Z' (J++[b]) AO ans objs.length ob b):i_ w' B0 Z' (J++[b]) AO ans (objs++[ob]):=by
 refine⟨by simp[h.1],λi o ho=>?_⟩;rw[Cg] at ho
 split at ho
 ·rename_i hi
  obtain⟨b',h1,h2⟩:=h.2 i o ho;refine⟨b',eD _ _ _ _ h1,h2.mono hΨ ?_ (hs i hi)⟩;rw[List.take_append_of_le_length (by rw[h.1];omega)];exact aG _
 ·rename_i hi
  have:i=objs.length:=by
   have:=(Ab.1 ho).1;simp at this;omega
  subst this;simp at ho;subst ho;exact⟨b,by rw[Bm (by rw[h.1];exact Ae _)];simp[h.1],hn⟩
theorem a0h{E:Nat->Slot}{objs:List ai}(h:Rel P ans B0 w Ψ J ow an E tmps objs){ob:ai}{o:Obj}(BR:Own)(h1:∀b,BR b≠none->ow b≠none)(IF:∀kk i,¬(kk=false/\i=an.nt)->e_ w Ψ ow w Ψ BR kk i kk i)
  (hn:m6 (w.alloc o) B0 Ψ (J++[w.heap.size]) (oset BR w.heap.size (some (true,objs.length,0))) ans objs.length ob w.heap.size) :
  Rel P ans B0 (w.alloc o) Ψ (J++[w.heap.size]) (oset BR w.heap.size (some (true,objs.length,0))) an E tmps (objs++[ob]) /\
  Fr w Ψ ow (w.alloc o) Ψ (oset BR w.heap.size (some (true,objs.length,0))):=by
 have e:=rY h.b_;have KA:∀b,BR b≠none->b<w.heap.size:=λb hb=>h.lt b (h1 b hb)
 have B6:∀kk i,¬(kk=false/\i=an.nt)->e_ w Ψ ow (w.alloc o) Ψ (oset BR w.heap.size (some (true,objs.length,0))) kk i kk i:=λkk i hk b s hb=>by
  obtain⟨g1,_,_⟩:=IF kk i hk b s hb;have h2:=lW (Ψ:=Ψ) (ow:=BR) (o:=o) (τ:=λ_=>none) (id:=some (true,objs.length,0)) KA kk i b s g1;rw[e] at h2;exact h2
 have hw:=h.b_.alloc (o:=o) (τ:=λ_=>none) (λoff c hc=>by cases hc);rw[e] at hw;have hf:=Fr.alloc (ow:=BR) (o:=o) (τ:=λ_=>none) (id:=some (true,objs.length,0)) h.b_;rw[e] at hf;refine⟨⟨h.size,hw,λt=>?_,h.refs,h.boxes,h.objs.push Ψ.le_refl (λi _=>B6 true i (by simp)) hn,λb hb=>?_,by have:=h.base;simp;omega,h.hi⟩,⟨hf.le,hf.size,λb hb ho=>hf.keep b hb ?_,λb hb=>?_,hf.os,hf.tape,hf.output⟩⟩
 ·rcases Dl t an.nt with h2|h2
  ·exact(h.dr t).mono Ψ.le_refl (eD _ _) (B6 false t (by simp;omega)) (λ_ _ _=>rfl)
  ·rw[h.hi t h2];exact .dead _
 ·by_cases ww:b=w.heap.size
  ·simp;omega
  ·have:=KA b (by simpa[oset,ww] using hb);simp;omega
 ·cases e1:BR b with
  |none=>rfl
  |some x=>exact absurd ho (h1 b (by simp[e1]))
 ·rcases hf.own b hb with h3|h3
  ·exact .inl (h1 b h3)
  ·exact .inr h3
end
section
variable {P:Program}{ans:FuncId->AF}{an:AF}{w:World}{B0:Nat}{Ψ:HT}{J:List Nat}{ow:Own}{tmps:Array Value}{R:Type}{r:R}
def bA(xs:List ae):List ae:=xs.flatMap ae.cells
theorem cE:∀{xs:List ae}{s:Nat},(∀x∈xs,x.cells.length=s)->(bA xs).length=xs.length*s
 |[],s,_=>by simp[bA]
 |x::xs,s,h=>by
  have:=cE (xs:=xs) (s:=s) (λy hy=>h y (by simp[hy]))
  simp only[bA,Eh,Bc,Ak] at this ⊢;rw[this,h x (by simp),Co];omega
theorem gX:∀{xs:List ae}{s:Nat},(∀x∈xs,x.cells.length=s)->∀{i j:Nat}{x:ae},xs[i]?=some x->j<s->(bA xs)[i*s+j]?=x.cells[j]?
 |[],s,_,i,j,x,hx,_=>by simp at hx
 |y::xs,s,h,0,j,x,hx,hj=>by
  simp at hx;subst hx;simp only[bA,Eh,Fo,Bs];rw[Az (by rw[h y (by simp)];exact hj)]
 |y::xs,s,h,i+1,j,x,hx,hj=>by
  simp at hx;have ih:=gX (xs:=xs) (s:=s) (λz hz=>h z (by simp[hz])) hx hj;simp only[bA,Eh] at ih ⊢;rw[Bm (by rw[h y (by simp),Co];omega),h y (by simp),show(i+1)*s+j-s=i*s+j by rw[Co];omega];exact ih
theorem gY{xs:List ae}{s:Nat}(h:∀x∈xs,x.cells.length=s){p:Nat}{c:ae}(hc:(bA xs)[p]?=some c):∃i j x,p=i*s+j/\j<s/\xs[i]?=some x/\x.cells[j]?=some c:=by
 have hp:p<xs.length*s:=by rw[<-cE h];exact(Ab.1 hc).1
 have hs:0<s:=by
  rcases Ff s with e|e
  ·subst e;simp at hp
  ·exact e
 have hi:p/s<xs.length:=by rw[Nat.div_lt_iff_lt_mul hs];exact hp
 have hj:=Fb p hs;have he:p=p/s*s+p%s:=by rw[Fp];exact(Nat.div_add_mod p s).symm
 refine⟨p/s,p%s,xs[p/s],he,hj,by simp[hi],?_⟩
 have:=gX h (i:=p/s) (j:=p%s) (x:=xs[p/s]) (by simp[hi]) hj
 rw[<-this,<-he];exact hc
theorem a09(xs ys:List ae):bA (xs++ys)=bA xs++bA ys:=by simp[bA]
theorem am.rows{xs:List ae}{a:Option Addr}{len cap s:Nat}(h:am Ψ J (.slice xs) (.slice a len cap))(hs:∀x∈xs,x.cells.length=s) :
  xs.length=len/\len<=cap/\(xs≠[]->∃b o,a=some ⟨b,o,none⟩/\∀(p:Nat) c,(bA xs)[p]?=some c->Ψ b (o+p) c):=by
 cases h with
 |slice _ _ _ _ s' hl hc hx =>
  refine⟨hl,hc,λBA=>?_⟩;obtain⟨x0,rest,rfl⟩:=List.exists_cons_of_ne_nil BA;obtain⟨e0,b,o,ha,_⟩:=hx 0 x0 (by simp);have es:s'=s:=by rw[<-e0];exact hs x0 (by simp)
  refine⟨b,o,ha,λp c hc=>?_⟩;obtain⟨i,j,x,rfl,hj,hxi,Tt⟩:=gY hs hc;obtain⟨_,b',o',Kb,ht⟩:=hx i x hxi;rw[ha] at Kb;obtain⟨rfl,rfl⟩:b=b'/\o=o':=by simpa using Kb
  have:=ht j c Tt
  rw[es] at this
  rwa [<-De]
theorem am.xn{xs:List ae}{a:Option Addr}{len cap s:Nat}(hl:xs.length=len)(hc:len<=cap)(hs:∀x∈xs,x.cells.length=s)
  (h:xs≠[]->∃b o,a=some ⟨b,o,none⟩/\∀(p:Nat) c,(bA xs)[p]?=some c->Ψ b (o+p) c):am Ψ J (.slice xs) (.slice a len cap):=by
 refine .slice _ _ _ _ s hl hc λi x hx=>⟨hs x (Be hx),?_⟩
 obtain⟨b,o,ha,ht⟩:=h (by intro e;subst e;simp at hx);refine⟨b,o,ha,λj c hj=>?_⟩;have Mo:j<s:=by rw[<-hs x (Be hx)];exact(Ab.1 hj).1
 have:=ht (i*s+j) c (by rw[gX hs hx Mo];exact hj)
 rwa [De]
theorem c_.row(hw:c_ Ψ w){b o:Nat}{cs:List ae}(h:∀(p:Nat) c,cs[p]?=some c->Ψ b (o+p) c) :
  ∃vs:List Value,vs.length=cs.length/\(∀(p:Nat) v,vs[p]?=some v->w.cell? ⟨b,o+p,none⟩=some v)/\(∀v∈vs,hV v=true)/\∀(p:Nat) c v,cs[p]?=some c->vs[p]?=some v->flat c=true/\am Ψ [] c v:=by
 have hex:∀p,p<cs.length->∃v,w.cell? ⟨b,o+p,none⟩=some v/\flat (cs.getD p .cW)=true/\am Ψ [] (cs.getD p .cW) v:=λp hp=>by
  obtain⟨h1,v,h2,h3⟩:=hw.sat _ _ _ (h p cs[p] (by simp[hp]));exact⟨v,h2,by simpa[hp] using h1,by simpa[hp] using h3⟩
 refine⟨(List.range cs.length).map λp=>(w.cell? ⟨b,o+p,none⟩).getD undef,by simp,?_,?_,?_⟩
 ·intro p v hv
  have hp:p<cs.length:=by have:=(Ab.1 hv).1;simpa using this
  obtain⟨u,hu,_⟩:=hex p hp;rw[Aw,Ch hp] at hv;simp[hu] at hv ⊢;exact hv
 ·intro v hv
  simp only[Cn,Cq] at hv;obtain⟨p,hp,rfl⟩:=hv;obtain⟨u,hu,h1,h2⟩:=hex p hp;rw[hu];exact h2.one (j6 h1)
 ·intro p c v hc hv
  have hp:p<cs.length:=(Ab.1 hc).1;obtain⟨u,hu,h1,h2⟩:=hex p hp;rw[Aw,Ch hp] at hv;simp[hu] at hv;subst hv
  have:cs.getD p .cW=c:=by simp[Bw,hc]
  rw[this] at h1 h2;exact⟨h1,h2⟩
theorem a0b(n:Nat):∀(rounds c:Nat),c<=2*n+512->(c<n\/c<=2*n+512)->Builtin.growBy n rounds c<=2*n+512
 |0,c,h,_=>h
 |k+1,c,h,_=>by
  unfold Builtin.growBy;split
  ·exact h
  ·exact a0b n k _ (by omega) (.inr (by omega))
theorem nextslicecap_le{need c:Nat}(h:c<need):Builtin.nextslicecap need c<=2*need+512:=by
 unfold Builtin.nextslicecap;split
 ·omega
 ·split
  ·omega
  ·exact a0b need 4 c (by omega) (.inl h)
theorem dL{b o size n cap:Nat}{vs:List Value}(hl:vs.length=n*size)(h:∀(p:Nat) v,vs[p]?=some v->w.cell? ⟨b,o+p,none⟩=some v) :
  (Builtin.firstCells size n (.slice (some ⟨b,o,none⟩) n cap)).run P w=.ok ⟨vs⟩ w:=by
 have:=run_loadCells_list (P:=P) (w:=w) ⟨b,o,none⟩ vs (λj v hj=>by rw[cH];exact h j v hj)
 simp[Builtin.firstCells,<-hl,this]
theorem jX(zero:Array Value)(n:Nat):(Builtin.zeroCells zero n).size=n*zero.size:=by simp[Builtin.zeroCells]
theorem a6f{E:Nat->Slot}{objs:List ai}(h:Rel P ans B0 w Ψ J ow an E tmps objs){sz:Nat}{xs ys:List ae}{v x:Value}(ho:am Ψ [] (.slice xs) v/\(∀x∈xs,x.cells.length=sz)/\∃a len cap,v=.slice a len cap/\(len=cap\/∃b o cs E,a=some ⟨b,o,none⟩/\ow b=some (false,an.nt,1)/\w.heap[b]?=some (.cells cs E (0,0))/\B0<=b/\o+cap*sz<=cs.size/\∀o',o+len*sz<=o'->Ψ b o'=FZ))(Mt:ys=[]->kw w B0 Ψ ow (false,an.nt,1) sz xs v)(hy:am Ψ J (.slice ys) x)
  (NY:∀y∈ys,y.cells.length=sz) {ts:Array TypeId} {ty t1 t2 e e2:TypeId} (h1:ts[0]?=some t1) (h2:ts[1]?=some t2) (FU:P.underlying t1=some (.slice e)) (EN:P.underlying t2=some (.slice e2)) (BD:aU P e=some sz) (CR:0<sz)
  {z:Value} (hz:(P.info? e).bind (·.zero)=some z) (Ii:z.cells.size=sz) (MG:bC P e<=16384) (Ht:0<bC P e) (EX:xs.length+ys.length<=room) :
  ∃v' w' Z' AO,(Builtin.append_ ts ty #[v,x]).run P w=.ok v' w'/\Rel P ans B0 w' Z' J AO an E tmps objs/\kw w' B0 Z' AO (false,an.nt,1) sz (xs++ys) v'/\Fr w Ψ ow w' Z' AO:=by
 obtain⟨hx,EC,base,AU,BV,rfl,G5⟩:=ho;obtain⟨hl,PQ,Js⟩:=hx.rows EC;cases hy with
 |slice _ xa n Jh s' HQ hcn xf =>
 have hyv:am Ψ J (.slice ys) (.slice xa n Jh):=.slice _ _ _ _ s' HQ hcn xf;obtain⟨_,_,Lm⟩:=hyv.rows NY;have a4q:∀i,P.info? e=some i->i.bytes=bC P e:=λi hi=>by simp[bC,hi]
 obtain⟨ti,HN⟩:∃ti,P.info? e=some ti:=by
  cases hi:P.info? e with
  |none=>simp[hi] at hz
  |some ti=>exact⟨ti,rfl⟩
 have LF:ti.zero=some z:=by simpa[HN] using hz
 obtain⟨yv,yl,yc,a7Q,a3y⟩:∃yv:List Value,yv.length=n*sz/\(Builtin.firstCells sz n (.slice xa n Jh)).run P w=.ok ⟨yv⟩ w/\(∀u∈yv,hV u=true)/\∀(p:Nat) c u,(bA ys)[p]?=some c->yv[p]?=some u->flat c=true/\am Ψ [] c u:=by
  by_cases BA:ys=[]
  ·subst BA
   simp at HQ;subst HQ;refine⟨[],by simp,?_,by simp,by simp⟩;cases xa with
   |none=>simp[Builtin.firstCells]
   |some a=>simp[Builtin.firstCells,loadCells,loadCellsFrom]
  ·obtain⟨b,o,rfl,ht⟩:=Lm BA
   obtain⟨yv,l1,l2,l3,l4⟩:=h.b_.row ht;have ru:yv.length=n*sz:=by rw[l1,cE NY,HQ]
   exact⟨yv,ru,dL ru l2,l3,l4⟩
 have Oq:∀u∈xs++ys,u.cells.length=sz:=λu hu=>by
  rcases Bk.1 hu with hu|hu
  ·exact EC u hu
  ·exact NY u hu
 have wG:(bA xs).length=AU*sz:=by rw[cE EC,hl]
 have xg:(bA ys).length=n*sz:=by rw[cE NY,HQ]
 by_cases DD:AU+n<=BV
 ·
  by_cases hn0:n=0
  ·subst hn0
   have a58:ys=[]:=by cases ys with|nil=>rfl|cons a b=>simp at HQ
   subst a58;have a59:yv=[]:=by cases yv with|nil=>rfl|cons a b=>simp at yl
   subst a59;refine⟨.slice base AU BV,w,Ψ,ow,?_,h,by simpa using Mt rfl,Fr.refl _ _ _⟩;cases base with
   |none=>simp[Builtin.append_,h1,h2,run_underlying FU,run_underlying EN,run_sizeOf BD,Builtin.lenOf,yc,PQ]
   |some a=>simp[Builtin.append_,h1,h2,run_underlying FU,run_underlying EN,run_sizeOf BD,Builtin.lenOf,yc,PQ,storeCells]
  ·have AL:¬AU=BV:=by omega
   rcases G5 with G5|⟨b,o,cs,E',rfl,DA,hh,hB,JL,CS⟩
   ·exact absurd G5 AL
   ·obtain⟨cs⟩:=cs
    have a5P:o+BV*sz<=cs.length:=by simpa using JL
    have hmul:(AU+n)*sz<=BV*sz:=Cs _ DD;have a0R:(AU+n)*sz=AU*sz+n*sz:=Co _ _ _;have Hv:b<w.heap.size:=(An.1 hh).1;have A8:=b9 (P:=P) (T:=E') yv (o+AU*sz) 0 w cs hh a7Q (by rw[yl];omega);rw[Ax] at A8;generalize DX:w.putObj b (.cells ⟨overwrite cs (o+AU*sz) yv⟩ E' (0,0))=w' at A8;have F3:w'.heap[b]?=some (.cells ⟨overwrite cs (o+AU*sz) yv⟩ E' (0,0)):=by rw[<-DX];exact World.putObj_heap_same Hv
    have I1:∀b',b'≠b->w'.heap[b']?=w.heap[b']?:=λb' BC=>by rw[<-DX];exact World.putObj_heap_other BC
    have qe:w'.heap.size=w.heap.size:=by rw[<-DX];simp
    let Z':HT:=λb' o'=>if b'=b/\o+AU*sz<=o'/\o'<o+AU*sz+n*sz then(λc=>(bA ys)[o'-(o+AU*sz)]?=some c) else Ψ b' o'
    have hle:Ψ.le Z':=λb' o' c hc=>by
     have:¬(b'=b/\o+AU*sz<=o'/\o'<o+AU*sz+n*sz):=λ⟨e1,e2,_⟩=>by subst e1;rw[CS o' e2] at hc;exact hc
     simp only[Z',Bf this];exact hc
    have LV:∀b',b'≠b->∀o',Z' b' o'=Ψ b' o':=λb' BC o'=>by simp[Z',BC]
    have B6:∀kk i,¬(kk=false/\i=an.nt)->e_ w Ψ ow w' Z' ow kk i kk i:=λkk i hk b' s BC=>by
     have BA:b'≠b:=λe=>by subst e;rw[DA] at BC;simp only[Am,Bq] at BC;exact hk ⟨BC.1.symm,BC.2.1.symm⟩
     exact⟨BC,I1 b' BA,λo' FM=>by rw[LV b' BA];exact FM⟩
    have hws:c_ Z' w':=⟨by rw[qe];exact h.b_.kS,λb' o' c hc=>by
     by_cases BC:b'=b
     ·subst BC
      by_cases HI:o+AU*sz<=o'/\o'<o+AU*sz+n*sz
      ·simp only[Z',HI,and_self,Fw,Dq] at hc
       have hp:o'-(o+AU*sz)<yv.length:=by rw[yl];omega
       obtain⟨f1,f2⟩:=a3y _ c yv[o'-(o+AU*sz)] hc (by simp[hp]);refine⟨f1,yv[o'-(o+AU*sz)],?_,f2.mono hle (aG _)⟩;rw[cell_of_heap F3,aX _ _ _ _ (by rw[yl];omega),Bf (by omega),Br (by rw[yl];omega)];simp[hp]
      ·have C6:Ψ b' o' c:=by
        have:¬(b'=b'/\o+AU*sz<=o'/\o'<o+AU*sz+n*sz):=λe=>HI e.2
        simpa only[Z',Bf this] using hc
       have AP:o'<o+AU*sz:=by
        rcases Dl o' (o+AU*sz) with h'|h'
        ·exact h'
        ·rw[CS o' h'] at C6;exact(C6:False).elim
       obtain⟨f1,u,f2,f3⟩:=h.b_.sat b' o' c C6;refine⟨f1,u,?_,f3.mono hle (aG _)⟩;rw[cell_of_heap hh] at f2;rw[cell_of_heap F3,aX _ _ _ _ (by rw[yl];omega),Br AP];exact f2
     ·rw[LV b' BC] at hc
      obtain⟨f1,u,f2,f3⟩:=h.b_.sat b' o' c hc;exact⟨f1,u,(m8 (I1 b' BC) o').trans f2,f3.mono hle (aG _)⟩⟩
    refine⟨.slice (some ⟨b,o,none⟩) (AU+n) BV,w',Z',ow,?_,?_,?_,?_⟩
    ·simp[Builtin.append_,h1,h2,run_underlying FU,run_underlying EN,run_sizeOf BD,Builtin.lenOf,yc,DD,cH,A8]
    ·refine⟨h.size,hws,λu=>?_,h.refs,h.boxes,h.objs.mono hle (λi _=>B6 true i (by simp)),λb' BC=>by rw[qe];exact h.lt b' BC,by rw[qe];exact h.base,h.hi⟩
     rcases Dl u an.nt with hu|hu
     ·exact(h.dr u).mono hle (aG _) (B6 false u (by simp;omega)) (λ_ _ _=>rfl)
     ·rw[h.hi u hu];exact .dead _
    ·refine⟨?_,Oq,_,_,_,rfl,.inr ⟨b,o,_,E',rfl,DA,F3,hB,?_,?_⟩⟩
     ·refine .xn (s:=sz) (by simp[hl,HQ]) DD Oq λ_=>⟨b,o,rfl,λp c hc=>?_⟩
      rw[a09,Cg,wG] at hc
      split at hc
      ·rename_i hp
       have a4K:xs≠[]:=by intro e;subst e;simp at hl;subst hl;simp at hp
       obtain⟨b1,o1,e1,ht⟩:=Js a4K;obtain⟨rfl,rfl⟩:b=b1/\o=o1:=by simpa using e1
       exact hle _ _ _ (ht p c hc)
      ·rename_i hp
       have JZ:p-AU*sz<n*sz:=by rw[<-xg];exact(Ab.1 hc).1
       have:b=b/\o+AU*sz<=o+p/\o+p<o+AU*sz+n*sz:=⟨rfl,by omega,by omega⟩
       simp only[Z',Br this];rw[show o+p-(o+AU*sz)=p-AU*sz by omega];exact hc
     ·show o+BV*sz<=(overwrite cs (o+AU*sz) yv).length
      rw[aP _ _ _ (by rw[yl];omega)];exact a5P
     ·intro o' FM
      have:¬(b=b/\o+AU*sz<=o'/\o'<o+AU*sz+n*sz):=λe=>by have:=e.2.2;omega
      simp only[Z',Bf this];exact CS o' (by omega)
    ·exact⟨hle,by rw[qe];exact Ae _,λb' _ BC=>by
      have BA:b'≠b:=λe=>by subst e;rw[DA] at BC;cases BC
      exact⟨I1 b' BA,LV b' BA⟩,λ_ BC=>.inl BC,by rw[<-DX];rfl,by rw[<-DX];rfl,by rw[<-DX];rfl⟩
 ·
  obtain⟨xv,xl,a7N,a7O⟩:∃xv:List Value,xv.length=AU*sz/\(∀w1:World,w1.heap=w.heap->(Builtin.firstCells sz AU (.slice base AU BV)).run P w1=.ok ⟨xv⟩ w1)/\∀(p:Nat) c u,(bA xs)[p]?=some c->xv[p]?=some u->flat c=true/\am Ψ [] c u:=by
   by_cases BA:xs=[]
   ·subst BA
    simp at hl;subst hl;refine⟨[],by simp,λw1 _=>?_,by simp⟩;cases base with
    |none=>simp[Builtin.firstCells]
    |some a=>simp[Builtin.firstCells,loadCells,loadCellsFrom]
   ·obtain⟨b,o,rfl,ht⟩:=Js BA
    obtain⟨xv,l1,l2,_,l4⟩:=h.b_.row ht;have hxl:xv.length=AU*sz:=by rw[l1,wG]
    exact⟨xv,hxl,λw1 e=>dL hxl (λp u hu=>(m8 (by rw[e]) _).trans (l2 p u hu)),l4⟩
  have yc':∀w1:World,w1.heap=w.heap->(Builtin.firstCells sz n (.slice xa n Jh)).run P w1=.ok ⟨yv⟩ w1:=λw1 e=>by
   by_cases BA:ys=[]
   ·subst BA
    simp at HQ;subst HQ
    have:yv=[]:=by cases yv with|nil=>rfl|cons a b=>simp at yl
    subst this;cases xa with
    |none=>simp[Builtin.firstCells]
    |some a=>simp[Builtin.firstCells,loadCells,loadCellsFrom]
   ·obtain⟨b,o,rfl,ht⟩:=Lm BA
    obtain⟨XG,l1,l2,_,l4⟩:=h.b_.row ht;have ru:XG.length=n*sz:=by rw[l1,xg]
    have e1:=dL (P:=P) (cap:=Jh) ru l2;rw[yc] at e1;obtain rfl:yv=XG:=by simpa using e1
    exact dL ru (λp u hu=>(m8 (by rw[e]) _).trans (l2 p u hu))
  have KE:=nextslicecap_le (need:=AU+n) (c:=BV) (by omega);have a8x:AU+n<=4294967296:=by rw[<-hl,<-HQ];exact EX
  have a0P:bC P e=ti.bytes:=(a4q ti HN).symm
  have J8:¬Builtin.nextslicecap (AU+n) BV*ti.bytes>2^48:=by
   have h1:Builtin.nextslicecap (AU+n) BV*ti.bytes<=(2*(AU+n)+512)*16384:=Ge KE (by rw[<-a0P];exact MG);omega
  have Hm:¬ti.bytes=0:=by rw[<-a0P];omega
  obtain⟨A6,wN,I5⟩:∃A6,AU+n<=A6/\(Question.appendCap (AU+n) BV e).cut (w.tape w.drawn (Question.appendCap (AU+n) BV e))=A6 :=
   ⟨_,by simp only[Question.cut];omega,rfl⟩
  obtain⟨w1,HD⟩:∃w1,w1=w.drew:=⟨_,rfl⟩
  have ra:w1.heap=w.heap:=by rw[HD];rfl
  have a55:w1.os=w.os:=by rw[HD];rfl
  have a56:w1.tape=w.tape:=by rw[HD];rfl
  have a57:w1.output=w.output:=by rw[HD];rfl
  have PX:(Question.appendCap (AU+n) BV e).forced=false:=rfl;have h':=h.heap ra
  let cells:List Value:=xv++yv++(Builtin.zeroCells z.cells (A6-(AU+n))).toList
  have BQ:cells.length=A6*sz:=by
   have e1:A6*sz=(AU+n)*sz+(A6-(AU+n))*sz:=by rw[<-Co];congr 1;omega
   simp only[cells,Bc,xl,yl,Array.length_toList,jX,Ii];rw[e1,Co]
  have A9:(Builtin.append_ ts ty #[.slice base AU BV,.slice xa n Jh]).run P w=.ok (.slice (some ⟨w1.heap.size,0,none⟩) (AU+n) A6) (w1.alloc (.cells ⟨cells⟩ e)):=by
   simp only[Builtin.append_,Sem.run_bind,h1,h2];simp[run_underlying FU,run_underlying EN,run_sizeOf BD,Builtin.lenOf,DD,run_typeInfo HN,Hm,J8,PX,I5,<-HD,a7N w1 ra,yc' w1 ra,aS hz,newRow,cells];congr 2;apply Cr;simp
  let τ:Nat->Option ae:=λoff=>(bA (xs++ys))[off]?
  have hτ:∀off c,τ off=some c->flat c=true/\∃u,(w1.alloc (.cells ⟨cells⟩ e)).cell? ⟨w1.heap.size,off,none⟩=some u/\am Ψ [] c u:=λoff c hc=>by
   have CY:(w1.alloc (.cells ⟨cells⟩ e)).cell? ⟨w1.heap.size,off,none⟩=cells[off]?:=cell_of_heap (heap_alloc_new _) off;simp only[τ] at hc;rw[a09,Cg,wG] at hc
   split at hc
   ·rename_i hp
    have HB:off<xv.length:=by rw[xl];exact hp
    obtain⟨f1,f2⟩:=a7O off c xv[off] hc (by simp[HB]);refine⟨f1,xv[off],?_,f2⟩;rw[CY];simp only[cells,Aj];rw[Az HB];simp[HB]
   ·rename_i hp
    have JZ:off-AU*sz<yv.length:=by rw[yl,<-xg];exact(Ab.1 hc).1
    obtain⟨f1,f2⟩:=a3y _ c yv[off-AU*sz] hc (by simp[JZ]);refine⟨f1,yv[off-AU*sz],?_,f2⟩;rw[CY];simp only[cells,Aj];rw[Bm (by rw[xl];omega),xl,Az JZ];simp[JZ]
  have hR:=h'.alloc (o:=.cells ⟨cells⟩ e) (τ:=τ) (id:=some (false,an.nt,1)) hτ;refine⟨_,_,_,_,A9,hR,⟨?_,Oq,_,_,_,rfl,.inr ⟨w1.heap.size,0,⟨cells⟩,e,rfl,by simp[oset],heap_alloc_new _,h'.base,by simpa using Nat.le_of_eq BQ.symm,?_⟩⟩,?_⟩
  ·refine .xn (s:=sz) (by simp[hl,HQ]) wN Oq λ_=>⟨_,_,rfl,λp c hc=>?_⟩
   simpa[fM,τ] using hc
  ·intro o' FM
   simp only[fM,Dq,τ]
   have J7:(bA (xs++ys))[o']?=none:=by
    rw[Dx,cE Oq];simp[hl,HQ] at FM ⊢;omega
   rw[J7];funext c;exact propext ⟨λe=>(by cases e),λe=>(e:False).elim⟩
  ·exact(Fr.heap ra a55 a56 a57).trans (Fr.alloc h'.b_)
end
section
variable {P:Program}{ans:FuncId->AF}{an:AF}{w:World}{B0:Nat}{Ψ:HT}{J:List Nat}{ow:Own}{tmps:Array Value}{R:Type}{r:R}
variable {tm:List Slot}{rs:RS}{dst:Option Nat}{m:Machine}{mk mp:Value->World->Machine}{kp:ae->RS->Option R}{k:Slot->RS->Option R}{ds:List Deferred}
theorem nU(h:Rel P ans B0 w Ψ J ow an (sl an tm rs) tmps rs.sto.objs):∀{ps:List (Nat×Operand)}{k:List (Nat×ae)->Option R},gN an.keep tm rs ps k=some r ->
  ∃l,k l=some r/\l.length=ps.length/\∀(n:Nat)(p:Nat×ae)(q:Nat×Operand),l[n]?=some p->ps[n]?=some q->p.1=q.1/\am Ψ J p.2 ((⟨tmps,ds⟩:Act).eval q.2)
 |[],k,e=>⟨[],by simpa[gN] using e,rfl,λn p q hp=>by simp at hp⟩
 |(i,x)::ps,k,e=>by
  simp only[gN] at e;obtain⟨t,hs,_⟩:=bH (ds:=ds) h x;obtain⟨y,e1,hy⟩:=lE hs e;obtain⟨l,e2,hl,hr⟩:=nU h e1;refine⟨(i,y)::l,e2,by simp[hl],λn p q hp hq=>?_⟩;cases n with
  |zero=>simp at hp hq;subst hp;subst hq;exact⟨rfl,hy⟩
  |succ n=>simp at hp hq;exact hr n p q hp hq
theorem a0a:∀(l:List Value)(k off:Nat)(cells:Array Value),off+k+l.length<=cells.size ->
  (l.zipIdx k).foldl (λcs (p:Value×Nat)=>cs.setIfInBounds (off+p.2) p.1) cells=⟨overwrite cells.toList (off+k) l⟩
 |[],k,off,cells,_=>by simp[overwrite]
 |v::l,k,off,cells,h=>by
  simp only[Ak] at h;rw[List.zipIdx_cons,Ef,a0a l (k+1) off (cells.setIfInBounds (off+k) v) (by simp;omega)];congr 1;have AL:off+k<cells.toList.length:=by simp;omega
  unfold overwrite;rw[show off+(k+1)=off+k+1 by omega,Array.toList_setIfInBounds,Fj (by simpa using AL)];simp only[Gt,Ak];rw[List.take_set_of_le (Ae _),List.drop_set_of_lt (by omega)];simp[show off+k+1+l.length=off+k+(l.length+1) by omega]
theorem jM(cells:Array Value)(off:Nat)(v:Value)(h:off+v.cells.size<=cells.size) :
  v.cells.zipIdx.foldl (λcs (c,j)=>cs.setIfInBounds (off+j) c) cells=⟨overwrite cells.toList off v.cells.toList⟩:=by
 have:=a0a v.cells.toList 0 off cells (by simpa using h)
 rw[<-Du,Array.toList_zipIdx];simpa using this
theorem a3q{place:Nat->Option (Nat×Nat)}{i0:Nat}:∀{l:List (Nat×ae)}{lv:List (Nat×Value)}{cs BX:List Cell}{vs:List Value},fB place cs l=some BX->l.length=lv.length ->
  (∀(n:Nat) p q,l[n]?=some p->lv[n]?=some q->p.1=q.1/\am Ψ J p.2 q.2)->ie w B0 Ψ J ow false i0 cs vs ->
  ∃CL,Instr.fill place ⟨vs⟩ lv=some ⟨CL⟩/\ie w B0 Ψ J ow false i0 BX CL
 |[],[],cs,BX,vs,e,_,_,hc=>by simp[fB] at e;subst e;exact⟨vs,rfl,hc⟩
 |[],_::_,_,_,_,_,hl,_,_=>by simp at hl
 |_::_,[],_,_,_,_,hl,_,_=>by simp at hl
 |(i,x)::l,(i',v)::lv,cs,BX,vs,e,hl,hr,hc=>by
  obtain⟨hi,hx⟩:=hr 0 (i,x) (i',v) (by simp) (by simp);simp only at hi hx;subst hi;simp only[fB] at e;obtain⟨⟨off,s⟩,hp,e⟩:=aH e;simp only at e;cases CI:Nat.beq x.cells.length s&&Nat.ble (off+s) cs.length with
  |false=>simp[CI] at e
  |true =>
   simp only[CI,Bo] at e;simp only[Ac] at CI;have h1:x.cells.length=s:=Aa CI.1;have h2:off+s<=cs.length:=Ad CI.2;have LG:=hx.a0A (w:=w) (B0:=B0) (ow:=ow) false i0;have hlen:v.cells.toList.length=s:=by rw[<-h1];simpa using LG.1.symm
   have sw:vs.length=cs.length:=hc.1.symm
   have ER:ie w B0 Ψ J ow false i0 (cs.take off++x.cells.map .val++cs.drop (off+x.cells.length)) (overwrite vs off v.cells.toList):=by
    have heq:cs.take off++x.cells.map .val++cs.drop (off+x.cells.length)=overwrite cs off (x.cells.map .val):=by simp[overwrite]
    rw[heq];refine⟨by rw[aP _ _ _ (by simp;omega),aP _ _ _ (by rw[hlen];omega)];exact hc.1,λj c u KH Lr=>?_⟩;rw[aX _ _ _ _ (by simp;omega)] at KH;rw[aX _ _ _ _ (by rw[hlen];omega),hlen,<-h1] at Lr;simp only[Ay] at KH;by_cases g1:j<off
    ·rw[Br g1] at KH Lr;exact hc.2 j c u KH Lr
    ·rw[Bf g1] at KH Lr
     by_cases g2:j<off+x.cells.length
     ·rw[Br g2] at KH Lr
      have:=LG.2 (j-off) c u KH Lr
      simp only[Aw,Aq] at KH;obtain⟨c',_,rfl⟩:=KH;cases this with|val _ _ a b=>exact .val _ _ a b
     ·rw[Bf g2] at KH Lr;exact hc.2 j c u KH Lr
   obtain⟨CL,f1,f2⟩:=a3q e (by simpa using hl) (λn p q K3 KZ=>hr (n+1) p q (by simpa using K3) (by simpa using KZ)) ER;refine⟨CL,?_,f2⟩;have BD:v.cells.size=s:=by simpa using hlen
   simp only[Instr.fill,hp];rw[Bf (by simp[BD];omega),jM _ _ _ (by simp;omega)];exact f1
theorem aCH(h:Rel P ans B0 w Ψ J ow an (sl an tm rs) tmps rs.sto.objs){t:TypeId}{parts:Array (Nat×Operand)}{cs z:List Cell}{l:List (Nat×ae)}(hz:zeroCells P t=some z)(hl:l.length=parts.toList.length)
  (hr:∀(n:Nat)(p:Nat×ae)(q:Nat×Operand),l[n]?=some p->parts.toList[n]?=some q->p.1=q.1/\am Ψ J p.2 ((⟨tmps,ds⟩:Act).eval q.2)) {place:Nat->Option (Nat×Nat)} (hf:fB place z l=some cs)
  (hb:∀zv,(P.info? t).bind (·.zero)=some zv->P.built t (parts.map λ(i,x)=>(i,(⟨tmps,ds⟩:Act).eval x)).toList=Instr.fill place zv.cells (parts.map λ(i,x)=>(i,(⟨tmps,ds⟩:Act).eval x)).toList) :
  ∃vs,(Instr.build t (parts.map λ(i,x)=>(i,(⟨tmps,ds⟩:Act).eval x))).run P w=.ok (.agg ⟨vs⟩) w/\ie w B0 Ψ J ow false an.nt cs vs:=by
 obtain⟨zv,Ih,ID⟩:=a1R (w:=w) (B0:=B0) (Ψ:=Ψ) (J:=J) (ow:=ow) hz false an.nt
 obtain⟨CL,f1,f2⟩:=a3q (lv:=(parts.map λ(i,x)=>(i,(⟨tmps,ds⟩:Act).eval x)).toList) hf (by simpa using hl) (λn p q hp hq=>by
  simp only[Fv,Aw,Aq] at hq;obtain⟨q',KZ,rfl⟩:=hq;exact hr n p q' hp KZ) ID
 refine⟨CL,run_build w t _ ⟨CL⟩ ?_,f2⟩;rw[hb zv Ih];exact f1
theorem a2z{s:Nat}:∀{l:List (Nat×ae)}{lv:List (Nat×Value)}{xs IP:List ae}{vs:List Value},cB s xs l=some IP->l.length=lv.length ->
  (∀(n:Nat) p q,l[n]?=some p->lv[n]?=some q->p.1=q.1/\am Ψ J p.2 q.2)->(∀x∈xs,x.cells.length=s/\clean x=true) ->
  ((bA xs).length=vs.length/\∀(p:Nat) c v,(bA xs)[p]?=some c->vs[p]?=some v->am Ψ [] c v) ->
  ∃CL,Instr.fill (λi=>some (i*s,s)) ⟨vs⟩ lv=some ⟨CL⟩/\IP.length=xs.length/\(∀x∈IP,x.cells.length=s/\clean x=true) /\
   ((bA IP).length=CL.length/\∀(p:Nat) c v,(bA IP)[p]?=some c->CL[p]?=some v->am Ψ [] c v)
 |[],[],xs,IP,vs,e,_,_,hx,hc=>by simp[cB] at e;subst e;exact⟨vs,rfl,rfl,hx,hc⟩
 |[],_::_,_,_,_,_,hl,_,_,_=>by simp at hl
 |_::_,[],_,_,_,_,hl,_,_,_=>by simp at hl
 |(i,x)::l,(i',v)::lv,xs,IP,vs,e,hl,hr,hx,hc=>by
  obtain⟨hi,LG⟩:=hr 0 (i,x) (i',v) (by simp) (by simp);simp only at hi LG;subst hi;simp only[cB] at e;cases CI:Nat.beq x.cells.length s&&Nat.blt i xs.length&&clean x with
  |false=>simp[CI] at e
  |true =>
   simp only[CI,Bo] at e;simp only[Ac] at CI;have h1:x.cells.length=s:=Aa CI.1.1;have h2:i<xs.length:=by have:=CI.1.2;simpa[Cy] using this
   have vz:v.cells.toList.length=s:=by rw[<-h1];simpa using(LG.cells).1.symm
   have KW:∀y∈xs,y.cells.length=s:=λy hy=>(hx y hy).1
   have Hg:∀y∈xs.set i x,y.cells.length=s/\clean y=true:=λy hy=>by
    rcases List.mem_or_eq_of_mem_set hy with h'|h'
    ·exact hx y h'
    ·subst h';exact⟨h1,CI.2⟩
   have YC:∀y∈xs.set i x,y.cells.length=s:=λy hy=>(Hg y hy).1
   have I4:(bA xs).length=xs.length*s:=cE KW
   have hmul:i*s+s<=xs.length*s:=by
    have:=Cs s (show i+1<=xs.length by omega)
    rw[Co] at this;omega
   have sw:i*s+s<=vs.length:=by rw[<-hc.1,I4];exact hmul
   have fM:(bA (xs.set i x)).length=(overwrite vs (i*s) v.cells.toList).length/\∀(p:Nat) c u,(bA (xs.set i x))[p]?=some c->(overwrite vs (i*s) v.cells.toList)[p]?=some u->am Ψ [] c u:=by
    refine⟨by rw[cE YC,aP _ _ _ (by rw[vz];exact sw),<-hc.1,I4];simp,λp c u DJ Mc=>?_⟩;obtain⟨a,j,y,rfl,hj,Oo,YB⟩:=gY YC DJ;rw[aX _ _ _ _ (by rw[vz];exact sw),vz] at Mc;rw[Ce] at Oo;by_cases UZ:i=a
    ·subst UZ
     simp[h2] at Oo;subst Oo;rw[Bf (by omega),Br (by omega),show i*s+j-i*s=j by omega] at Mc;exact((LG.clean (J':=[]) CI.2).cells).2.2 j c u YB (by simpa using Mc)
    ·rw[Bf UZ] at Oo
     have BA:¬(i*s<=a*s+j/\a*s+j<i*s+s):=by
      rintro⟨g1,g2⟩
      rcases Nat.lt_or_gt_of_ne UZ with h'|h'
      ·have:=Cs s (show i+1<=a by omega);rw[Co] at this;omega
      ·have:=Cs s (show a+1<=i by omega);rw[Co] at this;omega
     have a5X:vs[a*s+j]?=some u:=by
      by_cases g1:a*s+j<i*s
      ·rw[Br g1] at Mc;exact Mc
      ·rw[Bf g1,Bf (by omega)] at Mc;exact Mc
     exact hc.2 (a*s+j) c u (by rw[gX KW Oo hj];exact YB) a5X
   obtain⟨CL,f1,f2,f3,f4⟩:=a2z e (by simpa using hl) (λn p q K3 KZ=>hr (n+1) p q (by simpa using K3) (by simpa using KZ)) Hg fM;refine⟨CL,?_,by simpa using f2,f3,f4⟩;have BD:v.cells.size=s:=by simpa using vz
   simp only[Instr.fill];rw[Bf (by simp[BD];omega),jM _ _ _ (by simp[BD];omega)];exact f1
theorem a6B(n:Nat)(z:ae):∀(p:Nat) c,(bA (List.replicate n z))[p]?=some c->z.cells[p%z.cells.length]?=some c:=by
 intro p c h;obtain⟨i,j,x,rfl,hj,hx,hc⟩:=gY (s:=z.cells.length) (λx hx=>by rw[Ew hx]) h
 have:x=z:=Ew (Be hx)
 subst this;rw[Fp,Nat.mul_add_mod,Fq hj];exact hc
theorem a7Z(h:Rel P ans B0 w Ψ J ow an (sl an tm rs) tmps rs.sto.objs){t e:TypeId}{len s:Nat}{parts:Array (Nat×Operand)}{z:ae}{xs:List ae}{l:List (Nat×ae)}(he:P.underlying t=some (.slice e))(hs:aU P e=some s)(CR:0<s)(a8c:len*s<=16777216)
  (hz:zeroOf P e=some z) (Ii:z.cells.length=s) (hzc:clean z=true) (hl:l.length=parts.toList.length)
  (hr:∀(n:Nat)(p:Nat×ae)(q:Nat×Operand),l[n]?=some p->parts.toList[n]?=some q->p.1=q.1/\am Ψ J p.2 ((⟨tmps,ds⟩:Act).eval q.2)) (hf:cB s (List.replicate len z) l=some xs) :
  ∃v w' Z',(Instr.buildSlice t len (parts.map λ(i,x)=>(i,(⟨tmps,ds⟩:Act).eval x))).run P w=.ok v w'/\Rel P ans B0 w' Z' J ow an (sl an tm rs) tmps rs.sto.objs/\bX w' B0 Z' J ow tmps an.nt (.full xs) v/\Fr w Ψ ow w' Z' ow:=by
 simp only[zeroOf,Da] at hz;obtain⟨zv,⟨ti,HN,LF⟩,Ih⟩:=hz;have Ll:am Ψ [] z zv:=jF Ih;have a0U:zv.cells.size=s:=by rw[<-Ii];exact(Ll.cells).1.symm
 have Xz:∀x∈List.replicate len z,x.cells.length=s/\clean x=true:=λx hx=>by rw[Ew hx];exact⟨Ii,hzc⟩
 let init:List Value:=(List.range (len*s)).map λp=>zv.cells[p%zv.cells.size]!
 have a5S:(bA (List.replicate len z)).length=init.length/\∀(p:Nat) c v,(bA (List.replicate len z))[p]?=some c->init[p]?=some v->am Ψ [] c v:=by
  refine⟨by rw[cE (λx hx=>(Xz x hx).1)];simp[init],λp c v hc hv=>?_⟩;have hp:p<len*s:=by have:=(Ab.1 hv).1;simpa[init] using this
  simp only[init,Aw,Ch hp,Bx,Am] at hv;have C6:=a6B len z p c hc;rw[Ii] at C6;have hm:p%s<zv.cells.size:=by rw[a0U];exact Fb _ CR
  rw[a0U] at hv;refine(Ll.cells).2.2 (p%s) c v C6 ?_;rw[<-hv];simp[hm]
 obtain⟨CL,f1,f2,f3,f4⟩:=a2z (lv:=(parts.map λ(i,x)=>(i,(⟨tmps,ds⟩:Act).eval x)).toList) (Ψ:=Ψ) (J:=J) hf (by simpa using hl) (λn p q hp hq=>by
  simp only[Fv,Aw,Aq] at hq;obtain⟨q',KZ,rfl⟩:=hq;exact hr n p q' hp KZ) Xz a5S
 have EC:∀x∈xs,x.cells.length=s:=λx hx=>(f3 x hx).1
 have A9:(Instr.buildSlice t len (parts.map λ(i,x)=>(i,(⟨tmps,ds⟩:Act).eval x))).run P w=.ok (.slice (some ⟨w.heap.size,0,none⟩) len len) (w.alloc (.cells ⟨CL⟩ e)):=by
  have DO:(Array.range (len*s)).map (λp=>zv.cells[p%zv.cells.size]!)=⟨init⟩:=by
   apply Cr;simp[init]
  by_cases h0:len*s=0
  ·have wH:len=0:=by rcases Nat.mul_eq_zero.1 h0 with h'|h'
                     ·exact h'
                     ·omega
   subst wH;have a5T:init=[]:=by simp[init]
   rw[a5T] at f1;have a8u:(#[]:Array Value)=⟨[]⟩:=rfl;simp only[Instr.buildSlice,Sem.run_bind,run_underlying he,Result.andThen_ok,run_sizeOf hs];simp;have NK:Instr.fill (λi=>some (i*s,s)) #[] (parts.map λ(i,x)=>(i,(⟨tmps,ds⟩:Act).eval x)).toList=some ⟨CL⟩:=f1;simp at NK;have Mb:Array.map (λ_:Nat=>(default:Value)) (Array.range 0)=#[]:=by apply Cr;simp
   simp[Mb,NK,newRow]
  ·have hle:¬len*s>2^24:=by omega
   simp only[Instr.buildSlice,Sem.run_bind,run_underlying he,Result.andThen_ok,run_sizeOf hs];have hz0:(P.info? e).bind (·.zero)=some zv:=by rw[HN];exact LF
   rw[<-DO] at f1;simp at f1;simp[h0,hle,aS hz0,f1,newRow]
 have hτ:∀off c,(λoff=>(bA xs)[off]?) off=some c->flat c=true/\∃v,(w.alloc (.cells ⟨CL⟩ e)).cell? ⟨w.heap.size,off,none⟩=some v/\am Ψ [] c v:=λoff c hc=>by
  obtain⟨i,j,x,rfl,hj,hx,Tt⟩:=gY EC hc;have EP:i*s+j<CL.length:=by rw[<-f4.1];exact(Ab.1 hc).1
  refine⟨?_,CL[i*s+j],?_,f4.2 _ c _ hc (by simp[EP])⟩
  ·have:=(f3 x (Be hx)).2
   exact Au.1 this c (Be Tt)
  ·rw[cell_of_heap (heap_alloc_new _)];simp[EP]
 have hR:=h.alloc (o:=.cells ⟨CL⟩ e) (τ:=λoff=>(bA xs)[off]?) (id:=none) hτ;have hF:=Fr.alloc (ow:=ow) (o:=.cells ⟨CL⟩ e) (τ:=λoff=>(bA xs)[off]?) (id:=none) h.b_
 have q_:oset ow w.heap.size none=ow:=by
  funext b;unfold oset;split
  ·subst_vars
   cases e1:ow w.heap.size with
   |none=>rfl
   |some y=>have:=h.lt w.heap.size (by simp[e1]);omega
  ·rfl
 rw[q_] at hR hF;refine⟨_,_,_,A9,hR,.full xs _ len ?_,hF⟩;have hlen:xs.length=len:=by rw[f2];simp
 exact .xn (s:=s) hlen (Ae _) EC λ_=>⟨_,_,rfl,λp c hc=>by simpa[fM] using hc⟩
def Slot.free:Slot->Bool
 |.box _=>false
 |.ref _ _=>false
 |.cells _=>false
 |.dead=>false
 |_=>true
def dS(P:Program)(ans:FuncId->AF)(B0:Nat)(w:World)(Ψ:HT)(J:List Nat)(ow:Own)(sto:AH)(c:Frame)(cs:List Frame)(m:Machine)(res:d_)(sto':AH):Prop :=
 ∃w' Z' J' AO,Fr w Ψ ow w' Z' AO/\pre J J'/\c_ Z' w'/\i_ w' B0 Z' J' AO ans sto'.objs/\(∀b,AO b≠none->b<w'.heap.size)/\gr sto sto' /\
  match res with
  |.ret s=>s.free=true/\∃v,bX w' B0 Z' J' AO #[] 0 s v/\Steps P m (lone (c.finish v) cs w')
  |.be x=>∃v,am Z' J' x v/\Steps P m (lone (c.raise [{ v,recovered:=false }]) cs w')
structure dT (ans:FuncId->AF) (B0:Nat) (w:World) (Ψ:HT) (J:List Nat) (ow:Own) (args:List Slot) (vs:Array Value) (sto:AH):Prop where
 b_:c_ Ψ w
 base:B0<=w.heap.size
 lt:∀b,ow b≠none->b<w.heap.size
 size:args.length=vs.size
 free:∀s∈args,s.free=true
 args:∀(i:Nat) s,args[i]?=some s->bX w B0 Ψ J ow #[] i s (vs.getD i undef)
 objs:i_ w B0 Ψ J ow ans sto.objs
 lo:sto.lo<=sto.objs.length
structure kC (P:Program) (ans:FuncId->AF) (B0:Nat) (cf:aI):Prop where
 fn:∀f args sto res sto',cf (.fn f) args sto=some (res,sto') ->
  (∃F,P.funcs[f]?=some F/\F.body.isSome=true/\F.name≠ "runtime.NumGoroutine")/\∀w Ψ J ow vs,dT ans B0 w Ψ J ow args vs sto->∀c cs,dS P ans B0 w Ψ J ow sto c cs (lone (Frame.enter P f vs .normal) (c::cs) w) res sto'
 bN:∀i args sto res sto',cf (.bN i) args sto=some (res,sto') ->
  ∃al,sto.objs[i]?=some (.loop al)/\args.length=al.params.size/\∀w Ψ J ow vs,dT ans B0 w Ψ J ow args vs sto->∀l rr,J[i]?=some l->w.heap[l]?=some (.loop rr)->∀c cs,
   dS P ans B0 w Ψ J ow sto c cs (lone (Frame.round l rr.fn ((rr.params.zip vs).foldl (λt (p,a)=>t.setIfInBounds p a) rr.tmps) rr.assign rr.body .normal) (c::cs) w) res sto'
theorem bX.uf{tmps':Array Value}{t:Nat}{s:Slot}{v:Value}(h:bX w B0 Ψ J ow tmps t s v)(hf:s.free=true):bX w B0 Ψ J ow tmps' t s v :=
 h.mono Ψ.le_refl (aG _) (e_.refl _ _ _ _ _) (λu o e=>by subst e;simp[Slot.free] at hf)
theorem pR:∀{xs:List Operand}{rs:RS}{ow:Own}{own:List Nat}{i:Nat}{k:List Slot->RS->Option R},Rel P ans B0 w Ψ J ow an (sl an tm rs) tmps rs.sto.objs->fX an.keep tm rs own i xs k=some r ->
  ∃l rs' AO,k l rs'=some r/\Rel P ans B0 w Ψ J AO an (sl an tm rs') tmps rs'.sto.objs/\rs'.sto=rs.sto/\l.length=xs.length/\(∀s∈l,s.free=true) /\
   (∀(j:Nat) s x,l[j]?=some s->xs[j]?=some x->bX w B0 Ψ J AO #[] (an.nt+1+i+j) s ((⟨tmps,ds⟩:Act).eval x))/\Fr w Ψ ow w Ψ AO /\
   (∀q,an.nt<=q->q<an.nt+1+i->e_ w Ψ ow w Ψ AO false q false q)
 |[],rs,ow,own,i,k,h,e=>⟨[],rs,ow,by simpa[fX] using e,h,rfl,rfl,by simp,λj s x hs=>by simp at hs,Fr.refl _ _ _,λq _ _=>e_.refl _ _ _ _ _⟩
 |x::xs,rs,ow,own,i,k,h,e=>by
  obtain⟨t,hs,ht⟩:=bH (ds:=ds) h x
  have plain:∀s0,s0.free=true->(∀sz l,s0≠.own sz l)->bX w B0 Ψ J ow tmps 0 s0 ((⟨tmps,ds⟩:Act).eval x)->fX an.keep tm rs own (i+1) xs (λl rs'=>k (s0::l) rs')=some r ->
    ∃l rs' AO,k l rs'=some r/\Rel P ans B0 w Ψ J AO an (sl an tm rs') tmps rs'.sto.objs/\rs'.sto=rs.sto/\l.length=(x::xs).length/\(∀s∈l,s.free=true) /\
     (∀(j:Nat) s y,l[j]?=some s->(x::xs)[j]?=some y->bX w B0 Ψ J AO #[] (an.nt+1+i+j) s ((⟨tmps,ds⟩:Act).eval y))/\Fr w Ψ ow w Ψ AO /\
     (∀q,an.nt<=q->q<an.nt+1+i->e_ w Ψ ow w Ψ AO false q false q):=λs0 hf FZ G4 e'=>by
   obtain⟨l,rs',AO,e1,h1,h2,h3,D0,h4,h5,h6⟩:=pR h e';refine⟨s0::l,rs',AO,e1,h1,h2,by simp[h3],λs hs=>?_,λj s y hj hy=>?_,h5,λq I0 Ju=>h6 q I0 (by omega)⟩
   ·rcases As.1 hs with hs|hs
    ·subst hs;exact hf
    ·exact D0 s hs
   cases j with
   |zero =>
    simp at hj hy;subst hj;subst hy
    have:=(G4.at (t':=an.nt+1+i) FZ (λcs e=>by subst e;simp[Slot.free] at hf) (λcs e=>by subst e;simp[Slot.free] at hf)).uf (tmps':=#[]) hf
    exact this.mono Ψ.le_refl (aG _) (h6 (an.nt+1+i) (by omega) (by omega)) (λ_ _ _=>rfl)
   |succ j =>
    simp at hj hy
    have:=h4 j s y hj hy
    rwa [show an.nt+1+(i+1)+j=an.nt+1+i+(j+1) by omega] at this
  have J8:AZ an.keep tm rs x=.nl->bX w B0 Ψ J ow tmps 0 .nl ((⟨tmps,ds⟩:Act).eval x):=λBI=>by
   rw[BI] at hs;generalize(⟨tmps,ds⟩:Act).eval x=v at hs;cases hs with|nl=>exact .nl
  simp only[fX] at e
  split at e
  ·rename_i sz l0 t' _ BI
   obtain rfl:=ht t' rfl;have BN:sl an tm rs t=.own sz l0:=BI;have hx:am Ψ J (.slice l0) (tmps.getD t undef):=by have:=h.dr t;rw[BN] at this;cases this with|own _ _ _ hv=>exact hv.val
   have KY:t<an.nt:=h.rD (by rw[BN];simp);obtain⟨h1,h2⟩:=h.take t KY (.slice l0) hx (by rw[BN];simp) (an.nt+1+i);rw[show jl (sl an tm rs) t (.val (.slice l0))=sl an tm (rs.put t (.val (.slice l0))) from(dJ _ _ _ _ _).symm] at h1;obtain⟨l,rs',AO,e1,g1,g2,g3,gfr,g4,g5,g6⟩:=pR h1 e;refine⟨.own sz l0::l,rs',AO,e1,g1,g2,by simp[g3],λs hs=>?_,λj s y hj hy=>?_,(Fr.fE w Ψ ow).trans g5,λq I0 Ju=>?_⟩
   ·rcases As.1 hs with hs|hs
    ·subst hs;rfl
    ·exact gfr s hs
   ·cases j with
    |zero =>
     simp at hj hy;subst hj;subst hy;rw[BN] at h2
     have:=(h2.uf (tmps':=#[]) rfl)
     exact this.mono Ψ.le_refl (aG _) (g6 (an.nt+1+i) (by omega) (by omega)) (λ_ _ _=>rfl)
    |succ j =>
     simp at hj hy
     have:=g4 j s y hj hy
     rwa [show an.nt+1+(i+1)+j=an.nt+1+i+(j+1) by omega] at this
   ·have s1:=eV w Ψ ow (k1:=false) (i1:=t) (k2:=false) (i2:=an.nt+1+i) (off:=0) (k:=false) (i:=q) (by simp;omega)
    intro b s hb;obtain⟨a1,_,_⟩:=s1 b s hb;exact g6 q I0 (by omega) b s a1
  ·exact plain .nl rfl (by simp) (J8 (by assumption)) e
  ·obtain⟨y,e1,hy⟩:=lE hs e
   exact plain (.val y) rfl (by simp) (.val _ _ hy) e1
def qR(nt:Nat)(ow:Own):Own:=λb =>
 match ow b with
 |some (true,i,s)=>some (true,i,s)
 |some (false,t,s)=>if nt+1<=t then some (false,t-(nt+1),s) else none
 |none=>none
def eZ(nt:Nat)(ow D5:Own):Own:=λb =>
 match D5 b with
 |some (true,i,s)=>some (true,i,s)
 |some (false,t,s)=>some (false,nt+t,s)
 |none=>match ow b with
  |some (false,t,s)=>if t<nt then some (false,t,s) else none
  |_=>none
theorem a35{nt:Nat}{b:Nat}(h:qR nt ow b≠none):ow b≠none:=by intro e;simp[qR,e] at h
theorem uN(h:Rel P ans B0 w Ψ J ow an (sl an tm rs) tmps rs.sto.objs)(sto:AH)(JF:sto.objs=rs.sto.objs)(AP:sto.lo<=sto.objs.length){l:List Slot}{xs:List Operand}(hl:l.length=xs.length)(D0:∀s∈l,s.free=true)
  (ha:∀(j:Nat) s x,l[j]?=some s->xs[j]?=some x->bX w B0 Ψ J ow #[] (an.nt+1+0+j) s ((⟨tmps,ds⟩:Act).eval x)) {caps:List ae} {cv:List Value} (BQ:caps.length=cv.length)
  (hc:∀(i:Nat) c v,caps[i]?=some c->cv[i]?=some v->am Ψ J c v) :
  dT ans B0 w Ψ J (qR an.nt ow) (l++caps.map .val) ⟨xs.map (⟨tmps,ds⟩:Act).eval++cv⟩ sto where
 b_:=h.b_
 base:=h.base
 lt:=λb hb=>h.lt b (a35 hb)
 size:=by simp[hl,BQ]
 free:=λs hs=>by
  rcases Bk.1 hs with hs|hs
  ·exact D0 s hs
  ·obtain⟨c,_,rfl⟩:=Cn.1 hs;rfl
 args:=λi s hs=>by
  have B6:e_ w Ψ ow w Ψ (qR an.nt ow) false (an.nt+1+0+i) false i:=λb s hb=>by
   refine⟨?_,rfl,λ_ h=>h⟩;simp only[qR,hb];rw[Br (by omega)];congr 3;omega
  rw[Cg] at hs
  split at hs
  ·rename_i hi
   have D7:i<xs.length:=by rw[<-hl];exact hi
   have hg:(⟨xs.map (⟨tmps,ds⟩:Act).eval++cv⟩:Array Value).getD i undef=(⟨tmps,ds⟩:Act).eval xs[i]:=by
    simp[Af,Cg,D7]
   rw[hg];exact(ha i s xs[i] hs (by simp[D7])).mono Ψ.le_refl (aG _) B6 (λ_ _ _=>rfl)
  ·rename_i hi
   rw[Aw,Aq] at hs;obtain⟨c,Ka,rfl⟩:=hs;have AL:i-l.length<cv.length:=by rw[<-BQ];exact(Ab.1 Ka).1
   have hg:(⟨xs.map (⟨tmps,ds⟩:Act).eval++cv⟩:Array Value).getD i undef=cv[i-l.length]:=by
    simp only[Af,List.getElem?_toArray];rw[Bm (by simp;omega)];simp[<-hl,AL]
   rw[hg];exact .val _ _ (hc _ c _ Ka (by simp[AL]))
 objs:=by
  rw[JF];exact h.objs.mono Ψ.le_refl λi _ b s hb=>⟨by simp[qR,hb],rfl,λ_ h=>h⟩
 lo:=AP
theorem vQ(h:Rel P ans B0 w Ψ J ow an (sl an tm rs) tmps rs.sto.objs){w':World}{Z':HT}{J':List Nat}{D5:Own}(hF:Fr w Ψ (qR an.nt ow) w' Z' D5)(hp:pre J J')(hw:c_ Z' w'){EW:List ai}{J2:List Nat}(JZ:pre J J2)
  (ho:i_ w' B0 Z' J2 D5 ans EW) (AL:∀b,D5 b≠none->b<w'.heap.size) :
  Rel P ans B0 w' Z' J2 (eZ an.nt ow D5) an (sl an tm rs) tmps EW/\Fr w Ψ ow w' Z' (eZ an.nt ow D5):=by
 have a4A:∀b,b<w.heap.size->qR an.nt ow b=none->D5 b=none:=λb hb hn=>by
  cases e:D5 b with
  |none=>rfl
  |some x =>
   rcases hF.own b (by simp[e]) with h'|h'
   ·exact absurd hn h'
   ·omega
 have a4m:∀u,u<an.nt->e_ w Ψ ow w' Z' (eZ an.nt ow D5) false u false u:=λu hu b s hb=>by
  have BC:=h.lt b (by simp[hb])
  have HI:qR an.nt ow b=none:=by
   simp only[qR,hb];rw[Bf (by omega)]
  have hr:=a4A b BC HI;obtain⟨k1,k2⟩:=hF.keep b BC HI;exact⟨by simp[eZ,hr,hb,hu],k1,λo ho=>by rw[k2 o];exact ho⟩
 have Jx:∀i,e_ w' Z' D5 w' Z' (eZ an.nt ow D5) true i true i:=λi b s hb=>⟨by simp[eZ,hb],rfl,λ_ h=>h⟩
 refine⟨⟨h.size,hw,λu=>?_,h.refs,h.boxes,ho.mono Z'.le_refl (λi _=>Jx i),λb hb=>?_,Bi h.base hF.size,h.hi⟩,⟨hF.le,hF.size,λb hb hn=>hF.keep b hb (by simp[qR,hn]),λb hb=>?_,hF.os,hF.tape,hF.output⟩⟩
 ·rcases Dl u an.nt with h2|h2
  ·exact(h.dr u).mono hF.le JZ (a4m u h2) (λ_ _ _=>rfl)
  ·rw[h.hi u h2];exact .dead _
 ·cases e:D5 b with
  |some x=>exact AL b (by simp[e])
  |none =>
   have:ow b≠none:=by
    intro e2;simp[eZ,e,e2] at hb
   exact Bt (h.lt b this) hF.size
 ·cases e:D5 b with
  |some x =>
   rcases hF.own b (by simp[e]) with h'|h'
   ·exact .inl (a35 h')
   ·exact .inr h'
  |none =>
   left;intro e2;simp[eZ,e,e2] at hb
end
end Go.AM
