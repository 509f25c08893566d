import Derived.Test.YtdkkaldimefljaaGreatDoorA01
import Derived.Laws.Tables
set_option linter.all false
namespace Go.AM
section
variable {P:Program}{ans:FuncId->AK}{an:AK}{w:World}{B0:Nat}{Z:HT}{J:List Nat}{ow:Own}{tmps:Array Value}{R:Type}{r:R}
variable {tm:List Slot}{rs:RS}{dst:Option Nat}{m:Machine}{mk mp:Value->World->Machine}{kp:AVal->RS->Option R}{k:Slot->RS->Option R}{ds:List Deferred}
def dA(Z:HT)(n:Nat)(τ:Nat->Option AVal):HT:=λb o=>if b=n then(λc=>τ o=some c) else Z b o
def oset(ow:Own)(n:Nat)(id:Option Hu):Own:=λb=>if b=n then id else ow b
theorem oR(h:WSat Z w)(τ:Nat->Option AVal):Z.le (dA Z w.heap.size τ):=λb o c e=>by
 have:=h.lt e
 simp[dA,show ¬b=w.heap.size by omega,e]
theorem oS(h:WSat Z w):dA Z w.heap.size (λ_=>none)=Z:=by
 funext b o;unfold dA;split
 ·subst_vars
  rw[h.none_of_ge (Ae _) o];funext c;exact propext ⟨λe=>(by cases e),λe=>(e:False).elim⟩
 ·rfl
theorem mL{o:Obj}{τ:Nat->Option AVal}{id:Option Hu}(AR:∀b,ow b≠none->b<w.heap.size)(kk:Bool)(i:Nat) :
  Same w Z ow (w.alloc o) (dA Z w.heap.size τ) (oset ow w.heap.size id) kk i kk i:=λb s hb=>by
 have h1:=AR b (by simp[hb]);have h2:¬b=w.heap.size:=by omega
 exact⟨by simp[oset,h2,hb],heap_alloc_old _ h1,λo h=>by simp[dA,h2,h]⟩
theorem Fr.alloc{o:Obj}{τ:Nat->Option AVal}{id:Option Hu}(hw:WSat Z w):Fr w Z ow (w.alloc o) (dA Z w.heap.size τ) (oset ow w.heap.size id) :=
 ⟨oR hw τ,by simp,λb hb _=>⟨heap_alloc_old _ hb,λo=>by simp[dA,show ¬b=w.heap.size by omega]⟩,λb hb=>by
  by_cases h:b=w.heap.size
  ·exact .inr (by omega)
  ·exact .inl (by simpa[oset,h] using hb),rfl,rfl,rfl⟩
theorem WSat.alloc{o:Obj}{τ:Nat->Option AVal}(hw:WSat Z w)(hτ:∀off c,τ off=some c->flat c=true/\∃v,(w.alloc o).cell? ⟨w.heap.size,off,none⟩=some v/\VRel Z [] c v) :
  WSat (dA Z w.heap.size τ) (w.alloc o):=⟨by have:=hw.size8;simp;omega,hw.glob.mono (oR hw τ),by
 obtain⟨cs,t,fr,h1,h2⟩:=hw.len5;exact⟨cs,t,fr,(heap_alloc_old _ (hw.lt (hw.glob.pow 0 (by omega)))).trans h1,h2⟩,λb off c e=>by
 by_cases h:b=w.heap.size
 ·subst h
  obtain⟨h1,v,h2,h3⟩:=hτ off c (by simpa[dA] using e);exact⟨h1,v,h2,h3.mono (oR hw τ) (aI _)⟩
 ·have e':Z b off c:=by simpa[dA,h] using e
  obtain⟨h1,v,h2,h3⟩:=hw.sat b off c e';exact⟨h1,v,(cell_congr (heap_alloc_old _ (hw.lt e')) off).trans h2,h3.mono (oR hw τ) (aI _)⟩⟩
theorem Rel.alloc{E:Nat->Slot}{objs:List AObj}(h:Rel P ans B0 w Z J ow an E tmps objs){o:Obj}{τ:Nat->Option AVal}{id:Option Hu}
  (hτ:∀off c,τ off=some c->flat c=true/\∃v,(w.alloc o).cell? ⟨w.heap.size,off,none⟩=some v/\VRel Z [] c v) :
  Rel P ans B0 (w.alloc o) (dA Z w.heap.size τ) J (oset ow w.heap.size id) an E tmps objs :=
 ⟨h.size,h.wsat.alloc hτ,λt=>(h.slots t).mono (oR h.wsat τ) (aI _) (mL h.lt false t) (λ_ _ _=>rfl),h.refs,h.boxes,h.objs.mono (oR h.wsat τ) (λi _=>mL h.lt true i),λb hb=>by
  by_cases e:b=w.heap.size
  ·simp;omega
  ·have:=h.lt b (by simpa[oset,e] using hb);simp;omega,by have:=h.base;simp;omega,h.hi⟩
theorem Rel.heap{E:Nat->Slot}{objs:List AObj}(h:Rel P ans B0 w Z J ow an E tmps objs){w1:World}(e:w1.heap=w.heap):Rel P ans B0 w1 Z J ow an E tmps objs:=by
 have hs:∀kk i,Same w Z ow w1 Z ow kk i kk i:=λkk i b s hb=>⟨hb,by rw[e],λ_ h=>h⟩
 exact⟨h.size,⟨by rw[e];exact h.wsat.size8,h.wsat.glob,by
  obtain⟨cs,t,fr,h1,h2⟩:=h.wsat.len5;exact⟨cs,t,fr,by rw[e];exact h1,h2⟩,λb o c hc=>by
  obtain⟨h1,v,h2,h3⟩:=h.wsat.sat b o c hc;exact⟨h1,v,(cell_congr (by rw[e]) o).trans h2,h3⟩⟩,λt=>(h.slots t).mono Z.le_refl (aI _) (hs false t) (λ_ _ _=>rfl),h.refs,h.boxes,h.objs.mono Z.le_refl (λi _=>hs true i),λb hb=>by rw[e];exact h.lt b hb,by rw[e];exact h.base,h.hi⟩
theorem Fr.heap{w1:World}(e:w1.heap=w.heap)(h1:w1.os=w.os)(h2:w1.tape=w.tape)(h3:w1.output=w.output):Fr w Z ow w1 Z ow :=
 ⟨Z.le_refl,by rw[e];exact Ae _,λb _ _=>⟨by rw[e],λ_=>rfl⟩,λ_ h=>.inl h,h1,h2,h3⟩
theorem sR(kk:Bool)(i:Nat):∀(hs:List (Option Nat))(xs:List AVal)(vs:List Value)(j0:Nat),xs.length=vs.length->(∀(j:Nat) x v,xs[j]?=some x->vs[j]?=some v->jV v=some x) ->
  (fJ hs xs).length=vs.length/\∀(j:Nat) c v,(fJ hs xs)[j]?=some c->vs[j]?=some v->CRel w B0 Z J ow (kk,i,j0+j+1) c v
 |[],xs,vs,j0,hl,h=>by
  refine⟨by simpa[fJ] using hl,λj c v hc hv=>?_⟩;simp only[fJ,Ao,Al] at hc;obtain⟨x,hx,rfl⟩:=hc;obtain⟨h1,h2⟩:=gX (Z:=Z) (J:=J) (h j x v hx hv);exact .val _ _ h1 h2
 |h::hs,[],vs,j0,hl,_=>by
  refine⟨by simpa[fJ] using hl,λj c v hc hv=>by simp[fJ] at hc⟩
 |h::hs,x::xs,[],j0,hl,_=>by simp at hl
 |h::hs,x::xs,v::vs,j0,hl,hh=>by
  obtain⟨h1,h2⟩:=sR kk i hs xs vs (j0+1) (by simpa using hl) (λj y u hy hu=>hh (j+1) y u (by simpa using hy) (by simpa using hu));refine⟨by simp[fJ,h1],λj c u hc hu=>?_⟩;cases j with
  |zero =>
   simp[fJ] at hc hu;subst hu hc;have ha:=hh 0 x v (by simp) (by simp);obtain⟨g1,g2⟩:=gX (Z:=Z) (J:=J) ha;unfold aE6;split
   ·have hv:v=.slice none 0 0:=by
     unfold jV at ha
     split at ha<;>simp at ha<;>rfl
    subst hv;exact .own _ _ _ (zK _ _)
   ·exact .val _ _ g1 g2
  |succ j =>
   simp[fJ] at hc hu
   have:=h2 j c u hc hu
   rwa [show j0+1+j+1=j0+(j+1)+1 by omega] at this
theorem qM{t:TypeId}{z:List Cell}(h:zeroCells P t=some z)(kk:Bool)(i:Nat):∃v,(P.info? t).bind (·.zero)=some v/\CsRel w B0 Z J ow kk i z v.cells.toList:=by
 simp only[zeroCells,zeroOf,Al,Ch] at h;obtain⟨x,⟨v,⟨a,ha,hv⟩,hx⟩,rfl⟩:=h;refine⟨v,by rw[ha];exact hv,?_⟩
 have key:x.cells.length=v.cells.toList.length/\∀(j:Nat) y u,x.cells[j]?=some y->v.cells.toList[j]?=some u->jV u=some y:=by
  cases v with
  |agg cs =>
   simp only[iD,Al] at hx;obtain⟨l,hl,rfl⟩:=hx;obtain⟨h1,h2⟩:=sS hl;exact⟨by simpa[AVal.cells,Value.cells] using h1,λj y u hy hu=>h2 j y u hy (by simpa[Value.cells] using hu)⟩
  |_ =>
   have hc:=gX (Z:=λ_ _=>hno) (J:=[]) (show jV _=some x by simpa only[iD] using hx);rw[gJ hc.1];refine⟨by simp[Value.cells],λj y u hy hu=>?_⟩;cases j with
   |zero=>simp[Value.cells] at hy hu;subst hy;subst hu;simpa only[iD] using hx
   |succ j=>simp at hy
 obtain⟨h1,h2⟩:=sR (w:=w) (B0:=B0) (Z:=Z) (J:=J) (ow:=ow) kk i (hints P 8 t) x.cells v.cells.toList 0 key.1 key.2;exact⟨h1,λj c u hc hu=>by have:=h2 j c u hc hu;rwa [Bn] at this⟩
theorem aLU(h:Rel P ans B0 w Z J ow an (sl an tm rs) tmps rs.sto.objs){z:List Cell}{vs:List Value}{T:TypeId}(hz:CsRel w B0 Z J ow false an.nt z vs) :
  Rel P ans B0 (w.alloc (.cells ⟨vs⟩ T)) Z J (oset ow w.heap.size (some (false,an.nt,0))) an (sl an tm rs) tmps rs.sto.objs /\
  SRel (w.alloc (.cells ⟨vs⟩ T)) B0 Z J (oset ow w.heap.size (some (false,an.nt,0))) tmps an.nt (.box z) (.pointer (some ⟨w.heap.size,0,none⟩)) /\
  Fr w Z ow (w.alloc (.cells ⟨vs⟩ T)) Z (oset ow w.heap.size (some (false,an.nt,0))):=by
 have e:=oS h.wsat;have h1:=h.alloc (o:=.cells ⟨vs⟩ T) (τ:=λ_=>none) (id:=some (false,an.nt,0)) (λoff c hc=>by cases hc);have h2:=Fr.alloc (ow:=ow) (o:=.cells ⟨vs⟩ T) (τ:=λ_=>none) (id:=some (false,an.nt,0)) h.wsat;have h3:=mL (Z:=Z) (o:=.cells ⟨vs⟩ T) (τ:=λ_=>none) (id:=some (false,an.nt,0)) h.lt false an.nt;rw[e] at h1 h2 h3;refine⟨h1,.box _ _ ⟨by simp[oset],h.base,h.wsat.none_of_ge (Ae _),vs,T,heap_alloc_new _,hz.mono Z.le_refl (aI _) h3⟩,h2⟩
theorem OsRel.push{w':World}{Z':HT}{AP:Own}{objs:List AObj}{b:Nat}{ob:AObj}(h:OsRel w B0 Z J ow ans objs)(hΨ:Z.le Z')(hs:∀i,i<objs.length->Same w Z ow w' Z' AP true i true i)
  (hn:ORel w' B0 Z' (J++[b]) AP ans objs.length ob b):OsRel w' B0 Z' (J++[b]) AP ans (objs++[ob]):=by
 refine⟨by simp[h.1],λi o ho=>?_⟩;rw[Cf] at ho
 split at ho
 ·rename_i hi
  obtain⟨b',h1,h2⟩:=h.2 i o ho;refine⟨b',eG _ _ _ _ h1,h2.mono hΨ ?_ (hs i hi)⟩;rw[List.take_append_of_le_length (by rw[h.1];omega)];exact aI _
 ·rename_i hi
  have:i=objs.length:=by
   have:=(Ab.1 ho).1;simp at this;omega
  subst this;simp at ho;subst ho;exact⟨b,by rw[Bh (by rw[h.1];exact Ae _)];simp[h.1],hn⟩
theorem uC{E:Nat->Slot}{objs:List AObj}(h:Rel P ans B0 w Z J ow an E tmps objs){ob:AObj}{o:Obj}(BX:Own)(h1:∀b,BX b≠none->ow b≠none)(JE:∀kk i,¬(kk=false/\i=an.nt)->Same w Z ow w Z BX kk i kk i)
  (hn:ORel (w.alloc o) B0 Z (J++[w.heap.size]) (oset BX w.heap.size (some (true,objs.length,0))) ans objs.length ob w.heap.size) :
  Rel P ans B0 (w.alloc o) Z (J++[w.heap.size]) (oset BX w.heap.size (some (true,objs.length,0))) an E tmps (objs++[ob]) /\
  Fr w Z ow (w.alloc o) Z (oset BX w.heap.size (some (true,objs.length,0))):=by
 have e:=oS h.wsat;have LY:∀b,BX b≠none->b<w.heap.size:=λb hb=>h.lt b (h1 b hb)
 have B4:∀kk i,¬(kk=false/\i=an.nt)->Same w Z ow (w.alloc o) Z (oset BX w.heap.size (some (true,objs.length,0))) kk i kk i:=λkk i hk b s hb=>by
  obtain⟨g1,_,_⟩:=JE kk i hk b s hb;have h2:=mL (Z:=Z) (ow:=BX) (o:=o) (τ:=λ_=>none) (id:=some (true,objs.length,0)) LY kk i b s g1;rw[e] at h2;exact h2
 have hw:=h.wsat.alloc (o:=o) (τ:=λ_=>none) (λoff c hc=>by cases hc);rw[e] at hw;have hf:=Fr.alloc (ow:=BX) (o:=o) (τ:=λ_=>none) (id:=some (true,objs.length,0)) h.wsat;rw[e] at hf;refine⟨⟨h.size,hw,λt=>?_,h.refs,h.boxes,h.objs.push Z.le_refl (λi _=>B4 true i (by simp)) hn,λb hb=>?_,by have:=h.base;simp;omega,h.hi⟩,⟨hf.le,hf.size,λb hb ho=>hf.keep b hb ?_,λb hb=>?_,hf.os,hf.tape,hf.output⟩⟩
 ·rcases Ck t an.nt with h2|h2
  ·exact(h.slots t).mono Z.le_refl (eG _ _) (B4 false t (by simp;omega)) (λ_ _ _=>rfl)
  ·rw[h.hi t h2];exact .dead _
 ·by_cases hbe:b=w.heap.size
  ·simp;omega
  ·have:=LY b (by simpa[oset,hbe] using hb);simp;omega
 ·cases e1:BX b with
  |none=>rfl
  |some x=>exact absurd ho (h1 b (by simp[e1]))
 ·rcases hf.own b hb with h3|h3
  ·exact .inl (h1 b h3)
  ·exact .inr h3
end
section
variable {P:Program}{ans:FuncId->AK}{an:AK}{w:World}{B0:Nat}{Z:HT}{J:List Nat}{ow:Own}{tmps:Array Value}{R:Type}{r:R}
def aM(xs:List AVal):List AVal:=xs.flatMap AVal.cells
theorem bS:∀{xs:List AVal}{s:Nat},(∀x∈xs,x.cells.length=s)->(aM xs).length=xs.length*s
 |[],s,_=>by simp[aM]
 |x::xs,s,h=>by
  have:=bS (xs:=xs) (s:=s) (λy hy=>h y (by simp[hy]))
  simp only[aM,Gt,Bu,Ay] at this ⊢;rw[this,h x (by simp),Ct];omega
theorem gB:∀{xs:List AVal}{s:Nat},(∀x∈xs,x.cells.length=s)->∀{i j:Nat}{x:AVal},xs[i]?=some x->j<s->(aM xs)[i*s+j]?=x.cells[j]?
 |[],s,_,i,j,x,hx,_=>by simp at hx
 |y::xs,s,h,0,j,x,hx,hj=>by
  simp at hx;subst hx;simp only[aM,Gt,Hk,Bn];rw[Bg (by rw[h y (by simp)];exact hj)]
 |y::xs,s,h,i+1,j,x,hx,hj=>by
  simp at hx;have ih:=gB (xs:=xs) (s:=s) (λz hz=>h z (by simp[hz])) hx hj;simp only[aM,Gt] at ih ⊢;rw[Bh (by rw[h y (by simp),Ct];omega),h y (by simp),show(i+1)*s+j-s=i*s+j by rw[Ct];omega];exact ih
theorem gC{xs:List AVal}{s:Nat}(h:∀x∈xs,x.cells.length=s){p:Nat}{c:AVal}(hc:(aM xs)[p]?=some c):∃i j x,p=i*s+j/\j<s/\xs[i]?=some x/\x.cells[j]?=some c:=by
 have hp:p<xs.length*s:=by rw[<-bS h];exact(Ab.1 hc).1
 have hs:0<s:=by
  rcases Nat.eq_zero_or_pos s with e|e
  ·subst e;simp at hp
  ·exact e
 have hi:p/s<xs.length:=by rw[Nat.div_lt_iff_lt_mul hs];exact hp
 have hj:=Fc p hs;have he:p=p/s*s+p%s:=by rw[Hl];exact(Nat.div_add_mod p s).symm
 refine⟨p/s,p%s,xs[p/s],he,hj,by simp[hi],?_⟩
 have:=gB h (i:=p/s) (j:=p%s) (x:=xs[p/s]) (by simp[hi]) hj
 rw[<-this,<-he];exact hc
theorem fM(xs ys:List AVal):aM (xs++ys)=aM xs++aM ys:=by simp[aM]
theorem VRel.rows{xs:List AVal}{a:Option Addr}{len cap s:Nat}(h:VRel Z J (.slice xs) (.slice a len cap))(hs:∀x∈xs,x.cells.length=s) :
  xs.length=len/\len<=cap/\(xs≠[]->∃b o,a=some ⟨b,o,none⟩/\∀(p:Nat) c,(aM xs)[p]?=some c->Z b (o+p) c):=by
 cases h with
 |slice _ _ _ _ s' hl hc hx =>
  refine⟨hl,hc,λBD=>?_⟩;obtain⟨x0,rest,rfl⟩:=List.exists_cons_of_ne_nil BD;obtain⟨e0,b,o,ha,_⟩:=hx 0 x0 (by simp);have es:s'=s:=by rw[<-e0];exact hs x0 (by simp)
  refine⟨b,o,ha,λp c hc=>?_⟩;obtain⟨i,j,x,rfl,hj,hxi,VL⟩:=gC hs hc;obtain⟨_,b',o',I9,ht⟩:=hx i x hxi;rw[ha] at I9;obtain⟨rfl,rfl⟩:b=b'/\o=o':=by simpa using I9
  have:=ht j c VL
  rw[es] at this
  rwa [<-De]
theorem VRel.of_rows{xs:List AVal}{a:Option Addr}{len cap s:Nat}(hl:xs.length=len)(hc:len<=cap)(hs:∀x∈xs,x.cells.length=s)
  (h:xs≠[]->∃b o,a=some ⟨b,o,none⟩/\∀(p:Nat) c,(aM xs)[p]?=some c->Z b (o+p) c):VRel Z J (.slice xs) (.slice a len cap):=by
 refine .slice _ _ _ _ s hl hc λi x hx=>⟨hs x (Be hx),?_⟩
 obtain⟨b,o,ha,ht⟩:=h (by intro e;subst e;simp at hx);refine⟨b,o,ha,λj c hj=>?_⟩;have L3:j<s:=by rw[<-hs x (Be hx)];exact(Ab.1 hj).1
 have:=ht (i*s+j) c (by rw[gB hs hx L3];exact hj)
 rwa [De]
theorem WSat.row(hw:WSat Z w){b o:Nat}{cs:List AVal}(h:∀(p:Nat) c,cs[p]?=some c->Z b (o+p) c) :
  ∃vs:List Value,vs.length=cs.length/\(∀(p:Nat) v,vs[p]?=some v->w.cell? ⟨b,o+p,none⟩=some v)/\(∀v∈vs,oneC v=true)/\∀(p:Nat) c v,cs[p]?=some c->vs[p]?=some v->flat c=true/\VRel Z [] c v:=by
 have hex:∀p,p<cs.length->∃v,w.cell? ⟨b,o+p,none⟩=some v/\flat (cs.getD p .nilptr)=true/\VRel Z [] (cs.getD p .nilptr) v:=λp hp=>by
  obtain⟨h1,v,h2,h3⟩:=hw.sat _ _ _ (h p cs[p] (by simp[hp]));exact⟨v,h2,by simpa[hp] using h1,by simpa[hp] using h3⟩
 refine⟨(List.range cs.length).map λp=>(w.cell? ⟨b,o+p,none⟩).getD undef,by simp,?_,?_,?_⟩
 ·intro p v hv
  have hp:p<cs.length:=by have:=(Ab.1 hv).1;simpa using this
  obtain⟨u,hu,_⟩:=hex p hp;rw[Ao,Cv hp] at hv;simp[hu] at hv ⊢;exact hv
 ·intro v hv
  simp only[Cu,Cq] at hv;obtain⟨p,hp,rfl⟩:=hv;obtain⟨u,hu,h1,h2⟩:=hex p hp;rw[hu];exact h2.one (jB h1)
 ·intro p c v hc hv
  have hp:p<cs.length:=(Ab.1 hc).1;obtain⟨u,hu,h1,h2⟩:=hex p hp;rw[Ao,Cv hp] at hv;simp[hu] at hv;subst hv
  have:cs.getD p .nilptr=c:=by simp[Br,hc]
  rw[this] at h1 h2;exact⟨h1,h2⟩
theorem eb(n:Nat):∀(rounds c:Nat),c<=2*n+512->(c<n\/c<=2*n+512)->Builtin.growBy n rounds c<=2*n+512
 |0,c,h,_=>h
 |k+1,c,h,_=>by
  unfold Builtin.growBy;split
  ·exact h
  ·exact eb n k _ (by omega) (.inr (by omega))
theorem nextslicecap_le{need c:Nat}(h:c<need):Builtin.nextslicecap need c<=2*need+512:=by
 unfold Builtin.nextslicecap;split
 ·omega
 ·split
  ·omega
  ·exact eb need 4 c (by omega) (.inl h)
theorem dD{b o size n cap:Nat}{vs:List Value}(hl:vs.length=n*size)(h:∀(p:Nat) v,vs[p]?=some v->w.cell? ⟨b,o+p,none⟩=some v) :
  (Builtin.firstCells size n (.slice (some ⟨b,o,none⟩) n cap)).run P w=.ok ⟨vs⟩ w:=by
 have:=run_loadCells_list (P:=P) (w:=w) ⟨b,o,none⟩ vs (λj v hj=>by rw[cF];exact h j v hj)
 simp[Builtin.firstCells,<-hl,this]
theorem iC(zero:Array Value)(n:Nat):(Builtin.zeroCells zero n).size=n*zero.size:=by simp[Builtin.zeroCells]
theorem pz{E:Nat->Slot}{objs:List AObj}(h:Rel P ans B0 w Z J ow an E tmps objs){sz:Nat}{xs ys:List AVal}{v x:Value}(ho:VRel Z [] (.slice xs) v/\(∀x∈xs,x.cells.length=sz)/\∃a len cap,v=.slice a len cap/\(len=cap\/∃b o cs E,a=some ⟨b,o,none⟩/\ow b=some (false,an.nt,1)/\w.heap[b]?=some (.cells cs E (0,0))/\B0<=b/\o+cap*sz<=cs.size/\∀o',o+len*sz<=o'->Z b o'=hno))(NM:ys=[]->OwnRel w B0 Z ow (false,an.nt,1) sz xs v)(hy:VRel Z J (.slice ys) x)
  (LG:∀y∈ys,y.cells.length=sz) {ts:Array TypeId} {ty t1 t2 e e2:TypeId} (h1:ts[0]?=some t1) (h2:ts[1]?=some t2) (D9:P.underlying t1=some (.slice e)) (DQ:P.underlying t2=some (.slice e2)) (BG:bA P e=some sz) (CR:0<sz)
  {z:Value} (hz:(P.info? e).bind (·.zero)=some z) (HD:z.cells.size=sz) (JJ:aU P e<=16384) (G4:0<aU P e) (DV:xs.length+ys.length<=room) :
  ∃v' w' Z' AP,(Builtin.append_ ts ty #[v,x]).run P w=.ok v' w'/\Rel P ans B0 w' Z' J AP an E tmps objs/\OwnRel w' B0 Z' AP (false,an.nt,1) sz (xs++ys) v'/\Fr w Z ow w' Z' AP:=by
 obtain⟨hx,C9,base,AJ,BH,rfl,CX⟩:=ho;obtain⟨hl,MJ,nN⟩:=hx.rows C9;cases hy with
 |slice _ xa n xcap s' FY hcn hxx =>
 have hyv:VRel Z J (.slice ys) (.slice xa n xcap):=.slice _ _ _ _ s' FY hcn hxx;obtain⟨_,_,Lw⟩:=hyv.rows LG;have ID:∀i,P.info? e=some i->i.bytes=aU P e:=λi hi=>by simp[aU,hi]
 obtain⟨ti,D0⟩:∃ti,P.info? e=some ti:=by
  cases hi:P.info? e with
  |none=>simp[hi] at hz
  |some ti=>exact⟨ti,rfl⟩
 have IQ:ti.zero=some z:=by simpa[D0] using hz
 obtain⟨yv,yl,yc,y1,yr⟩:∃yv:List Value,yv.length=n*sz/\(Builtin.firstCells sz n (.slice xa n xcap)).run P w=.ok ⟨yv⟩ w/\(∀u∈yv,oneC u=true)/\∀(p:Nat) c u,(aM ys)[p]?=some c->yv[p]?=some u->flat c=true/\VRel Z [] c u:=by
  by_cases BD:ys=[]
  ·subst BD
   simp at FY;subst FY;refine⟨[],by simp,?_,by simp,by simp⟩;cases xa with
   |none=>simp[Builtin.firstCells]
   |some a=>simp[Builtin.firstCells,loadCells,loadCellsFrom]
  ·obtain⟨b,o,rfl,ht⟩:=Lw BD
   obtain⟨yv,l1,l2,l3,l4⟩:=h.wsat.row ht;have hyl:yv.length=n*sz:=by rw[l1,bS LG,FY]
   exact⟨yv,hyl,dD hyl l2,l3,l4⟩
 have Jb:∀u∈xs++ys,u.cells.length=sz:=λu hu=>by
  rcases Bs.1 hu with hu|hu
  ·exact C9 u hu
  ·exact LG u hu
 have hflen:(aM xs).length=AJ*sz:=by rw[bS C9,hl]
 have hylen:(aM ys).length=n*sz:=by rw[bS LG,FY]
 by_cases CE:AJ+n<=BH
 ·
  by_cases P8:n=0
  ·subst P8
   have hys0:ys=[]:=by cases ys with|nil=>rfl|cons a b=>simp at FY
   subst hys0;have hyv0:yv=[]:=by cases yv with|nil=>rfl|cons a b=>simp at yl
   subst hyv0;refine⟨.slice base AJ BH,w,Z,ow,?_,h,by simpa using NM rfl,Fr.refl _ _ _⟩;cases base with
   |none=>simp[Builtin.append_,h1,h2,run_underlying D9,run_underlying DQ,run_sizeOf BG,Builtin.lenOf,yc,MJ]
   |some a=>simp[Builtin.append_,h1,h2,run_underlying D9,run_underlying DQ,run_sizeOf BG,Builtin.lenOf,yc,MJ,storeCells]
  ·have AR:¬AJ=BH:=by omega
   rcases CX with CX|⟨b,o,cs,E',rfl,BP,hh,hB,GG,B9⟩
   ·exact absurd CX AR
   ·obtain⟨cs⟩:=cs
    have hcap':o+BH*sz<=cs.length:=by simpa using GG
    have hmul:(AJ+n)*sz<=BH*sz:=Cr _ CE;have hmul2:(AJ+n)*sz=AJ*sz+n*sz:=Ct _ _ _;have E0:b<w.heap.size:=(Ad.1 hh).1;have A7:=b9 (P:=P) (T:=E') yv (o+AJ*sz) 0 w cs hh y1 (by rw[yl];omega);rw[Bk] at A7;generalize C4:w.putObj b (.cells ⟨overwrite cs (o+AJ*sz) yv⟩ E' (0,0))=w' at A7;have CZ:w'.heap[b]?=some (.cells ⟨overwrite cs (o+AJ*sz) yv⟩ E' (0,0)):=by rw[<-C4];exact World.putObj_heap_same E0
    have DA:∀b',b'≠b->w'.heap[b']?=w.heap[b']?:=λb' AX=>by rw[<-C4];exact World.putObj_heap_other AX
    have hsize:w'.heap.size=w.heap.size:=by rw[<-C4];simp
    let Z':HT:=λb' o'=>if b'=b/\o+AJ*sz<=o'/\o'<o+AJ*sz+n*sz then(λc=>(aM ys)[o'-(o+AJ*sz)]?=some c) else Z b' o'
    have hle:Z.le Z':=λb' o' c hc=>by
     have:¬(b'=b/\o+AJ*sz<=o'/\o'<o+AJ*sz+n*sz):=λ⟨e1,e2,_⟩=>by subst e1;rw[B9 o' e2] at hc;exact hc
     simp only[Z',Ax this];exact hc
    have NV:∀b',b'≠b->∀o',Z' b' o'=Z b' o':=λb' AX o'=>by simp[Z',AX]
    have B4:∀kk i,¬(kk=false/\i=an.nt)->Same w Z ow w' Z' ow kk i kk i:=λkk i hk b' s AX=>by
     have BD:b'≠b:=λe=>by subst e;rw[BP] at AX;simp only[Ak,Bp] at AX;exact hk ⟨AX.1.symm,AX.2.1.symm⟩
     exact⟨AX,DA b' BD,λo' DL=>by rw[NV b' BD];exact DL⟩
    have VM:WSat Z' w':=⟨by rw[hsize];exact h.wsat.size8,h.wsat.glob.mono hle,by
     obtain⟨c5,t5,f5,k1,k2⟩:=h.wsat.len5;by_cases h5:5=b
     ·subst h5
      rw[hh] at k1;cases k1;exact⟨_,_,_,CZ,by rw[Fo,aN _ _ _ (by rw[yl];omega)];simpa using k2⟩
     ·exact⟨c5,t5,f5,(DA 5 h5).trans k1,k2⟩,λb' o' c hc=>by
     by_cases AX:b'=b
     ·subst AX
      by_cases GN:o+AJ*sz<=o'/\o'<o+AJ*sz+n*sz
      ·simp only[Z',GN,and_self,Fi,Dk] at hc
       have hp:o'-(o+AJ*sz)<yv.length:=by rw[yl];omega
       obtain⟨f1,f2⟩:=yr _ c yv[o'-(o+AJ*sz)] hc (by simp[hp]);refine⟨f1,yv[o'-(o+AJ*sz)],?_,f2.mono hle (aI _)⟩;rw[cell_of_heap CZ,aR _ _ _ _ (by rw[yl];omega),Ax (by omega),Bo (by rw[yl];omega)];simp[hp]
      ·have CA:Z b' o' c:=by
        have:¬(b'=b'/\o+AJ*sz<=o'/\o'<o+AJ*sz+n*sz):=λe=>GN e.2
        simpa only[Z',Ax this] using hc
       have AW:o'<o+AJ*sz:=by
        rcases Ck o' (o+AJ*sz) with h'|h'
        ·exact h'
        ·rw[B9 o' h'] at CA;exact(CA:False).elim
       obtain⟨f1,u,f2,f3⟩:=h.wsat.sat b' o' c CA;refine⟨f1,u,?_,f3.mono hle (aI _)⟩;rw[cell_of_heap hh] at f2;rw[cell_of_heap CZ,aR _ _ _ _ (by rw[yl];omega),Bo AW];exact f2
     ·rw[NV b' AX] at hc
      obtain⟨f1,u,f2,f3⟩:=h.wsat.sat b' o' c hc;exact⟨f1,u,(cell_congr (DA b' AX) o').trans f2,f3.mono hle (aI _)⟩⟩
    refine⟨.slice (some ⟨b,o,none⟩) (AJ+n) BH,w',Z',ow,?_,?_,?_,?_⟩
    ·simp[Builtin.append_,h1,h2,run_underlying D9,run_underlying DQ,run_sizeOf BG,Builtin.lenOf,yc,CE,cF,A7]
    ·refine⟨h.size,VM,λu=>?_,h.refs,h.boxes,h.objs.mono hle (λi _=>B4 true i (by simp)),λb' AX=>by rw[hsize];exact h.lt b' AX,by rw[hsize];exact h.base,h.hi⟩
     rcases Ck u an.nt with hu|hu
     ·exact(h.slots u).mono hle (aI _) (B4 false u (by simp;omega)) (λ_ _ _=>rfl)
     ·rw[h.hi u hu];exact .dead _
    ·refine⟨?_,Jb,_,_,_,rfl,.inr ⟨b,o,_,E',rfl,BP,CZ,hB,?_,?_⟩⟩
     ·refine .of_rows (s:=sz) (by simp[hl,FY]) CE Jb λ_=>⟨b,o,rfl,λp c hc=>?_⟩
      rw[fM,Cf,hflen] at hc
      split at hc
      ·rename_i hp
       have Mg:xs≠[]:=by intro e;subst e;simp at hl;subst hl;simp at hp
       obtain⟨b1,o1,e1,ht⟩:=nN Mg;obtain⟨rfl,rfl⟩:b=b1/\o=o1:=by simpa using e1
       exact hle _ _ _ (ht p c hc)
      ·rename_i hp
       have E6:p-AJ*sz<n*sz:=by rw[<-hylen];exact(Ab.1 hc).1
       have:b=b/\o+AJ*sz<=o+p/\o+p<o+AJ*sz+n*sz:=⟨rfl,by omega,by omega⟩
       simp only[Z',Bo this];rw[show o+p-(o+AJ*sz)=p-AJ*sz by omega];exact hc
     ·show o+BH*sz<=(overwrite cs (o+AJ*sz) yv).length
      rw[aN _ _ _ (by rw[yl];omega)];exact hcap'
     ·intro o' DL
      have:¬(b=b/\o+AJ*sz<=o'/\o'<o+AJ*sz+n*sz):=λe=>by have:=e.2.2;omega
      simp only[Z',Ax this];exact B9 o' (by omega)
    ·exact⟨hle,by rw[hsize];exact Ae _,λb' _ AX=>by
      have BD:b'≠b:=λe=>by subst e;rw[BP] at AX;cases AX
      exact⟨DA b' BD,NV b' BD⟩,λ_ AX=>.inl AX,by rw[<-C4];rfl,by rw[<-C4];rfl,by rw[<-C4];rfl⟩
 ·
  obtain⟨xv,xl,xc,xr⟩:∃xv:List Value,xv.length=AJ*sz/\(∀w1:World,w1.heap=w.heap->(Builtin.firstCells sz AJ (.slice base AJ BH)).run P w1=.ok ⟨xv⟩ w1)/\∀(p:Nat) c u,(aM xs)[p]?=some c->xv[p]?=some u->flat c=true/\VRel Z [] c u:=by
   by_cases BD:xs=[]
   ·subst BD
    simp at hl;subst hl;refine⟨[],by simp,λw1 _=>?_,by simp⟩;cases base with
    |none=>simp[Builtin.firstCells]
    |some a=>simp[Builtin.firstCells,loadCells,loadCellsFrom]
   ·obtain⟨b,o,rfl,ht⟩:=nN BD
    obtain⟨xv,l1,l2,_,l4⟩:=h.wsat.row ht;have hxl:xv.length=AJ*sz:=by rw[l1,hflen]
    exact⟨xv,hxl,λw1 e=>dD hxl (λp u hu=>(cell_congr (by rw[e]) _).trans (l2 p u hu)),l4⟩
  have yc':∀w1:World,w1.heap=w.heap->(Builtin.firstCells sz n (.slice xa n xcap)).run P w1=.ok ⟨yv⟩ w1:=λw1 e=>by
   by_cases BD:ys=[]
   ·subst BD
    simp at FY;subst FY
    have:yv=[]:=by cases yv with|nil=>rfl|cons a b=>simp at yl
    subst this;cases xa with
    |none=>simp[Builtin.firstCells]
    |some a=>simp[Builtin.firstCells,loadCells,loadCellsFrom]
   ·obtain⟨b,o,rfl,ht⟩:=Lw BD
    obtain⟨ZX,l1,l2,_,l4⟩:=h.wsat.row ht;have hyl:ZX.length=n*sz:=by rw[l1,hylen]
    have e1:=dD (P:=P) (cap:=xcap) hyl l2;rw[yc] at e1;obtain rfl:yv=ZX:=by simpa using e1
    exact dD hyl (λp u hu=>(cell_congr (by rw[e]) _).trans (l2 p u hu))
  have HU:=nextslicecap_le (need:=AJ+n) (c:=BH) (by omega);have hroom':AJ+n<=4294967296:=by rw[<-hl,<-FY];exact DV
  have hby':aU P e=ti.bytes:=(ID ti D0).symm
  have Hr:¬Builtin.nextslicecap (AJ+n) BH*ti.bytes>2^48:=by
   have h1:Builtin.nextslicecap (AJ+n) BH*ti.bytes<=(2*(AJ+n)+512)*16384:=Gh HU (by rw[<-hby'];exact JJ);omega
  have GZ:¬ti.bytes=0:=by rw[<-hby'];omega
  obtain⟨AQ,hnc,G3⟩:∃AQ,AJ+n<=AQ/\(Question.appendCap (AJ+n) BH e).cut (w.tape w.drawn (Question.appendCap (AJ+n) BH e))=AQ :=
   ⟨_,by simp only[Question.cut];omega,rfl⟩
  obtain⟨w1,DJ⟩:∃w1,w1=w.drew:=⟨_,rfl⟩
  have hw1h:w1.heap=w.heap:=by rw[DJ];rfl
  have hw1o:w1.os=w.os:=by rw[DJ];rfl
  have hw1t:w1.tape=w.tape:=by rw[DJ];rfl
  have hw1u:w1.output=w.output:=by rw[DJ];rfl
  have NL:(Question.appendCap (AJ+n) BH e).forced=false:=rfl;have h':=h.heap hw1h
  let cells:List Value:=xv++yv++(Builtin.zeroCells z.cells (AQ-(AJ+n))).toList
  have B5:cells.length=AQ*sz:=by
   have e1:AQ*sz=(AJ+n)*sz+(AQ-(AJ+n))*sz:=by rw[<-Ct];congr 1;omega
   simp only[cells,Bu,xl,yl,Fh,iC,HD];rw[e1,Ct]
  have AZ:(Builtin.append_ ts ty #[.slice base AJ BH,.slice xa n xcap]).run P w=.ok (.slice (some ⟨w1.heap.size,0,none⟩) (AJ+n) AQ) (w1.alloc (.cells ⟨cells⟩ e)):=by
   simp only[Builtin.append_,Sem.run_bind,h1,h2];simp[run_underlying D9,run_underlying DQ,run_sizeOf BG,Builtin.lenOf,CE,run_typeInfo D0,GZ,Hr,NL,G3,<-DJ,xc w1 hw1h,yc' w1 hw1h,aS hz,newRow,cells];congr 2;apply Cg;simp
  let τ:Nat->Option AVal:=λoff=>(aM (xs++ys))[off]?
  have hτ:∀off c,τ off=some c->flat c=true/\∃u,(w1.alloc (.cells ⟨cells⟩ e)).cell? ⟨w1.heap.size,off,none⟩=some u/\VRel Z [] c u:=λoff c hc=>by
   have CG:(w1.alloc (.cells ⟨cells⟩ e)).cell? ⟨w1.heap.size,off,none⟩=cells[off]?:=cell_of_heap (heap_alloc_new _) off;simp only[τ] at hc;rw[fM,Cf,hflen] at hc
   split at hc
   ·rename_i hp
    have FC:off<xv.length:=by rw[xl];exact hp
    obtain⟨f1,f2⟩:=xr off c xv[off] hc (by simp[FC]);refine⟨f1,xv[off],?_,f2⟩;rw[CG];simp only[cells,As];rw[Bg FC];simp[FC]
   ·rename_i hp
    have E6:off-AJ*sz<yv.length:=by rw[yl,<-hylen];exact(Ab.1 hc).1
    obtain⟨f1,f2⟩:=yr _ c yv[off-AJ*sz] hc (by simp[E6]);refine⟨f1,yv[off-AJ*sz],?_,f2⟩;rw[CG];simp only[cells,As];rw[Bh (by rw[xl];omega),xl,Bg E6];simp[E6]
  have hR:=h'.alloc (o:=.cells ⟨cells⟩ e) (τ:=τ) (id:=some (false,an.nt,1)) hτ;refine⟨_,_,_,_,AZ,hR,⟨?_,Jb,_,_,_,rfl,.inr ⟨w1.heap.size,0,⟨cells⟩,e,rfl,by simp[oset],heap_alloc_new _,h'.base,by simpa using Nat.le_of_eq B5.symm,?_⟩⟩,?_⟩
  ·refine .of_rows (s:=sz) (by simp[hl,FY]) hnc Jb λ_=>⟨_,_,rfl,λp c hc=>?_⟩
   simpa[dA,τ] using hc
  ·intro o' DL
   simp only[dA,Dk,τ]
   have KO:(aM (xs++ys))[o']?=none:=by
    rw[Cy,bS Jb];simp[hl,FY] at DL ⊢;omega
   rw[KO];funext c;exact propext ⟨λe=>(by cases e),λe=>(e:False).elim⟩
  ·exact(Fr.heap hw1h hw1o hw1t hw1u).trans (Fr.alloc h'.wsat)
end
section
variable {P:Program}{ans:FuncId->AK}{an:AK}{w:World}{B0:Nat}{Z:HT}{J:List Nat}{ow:Own}{tmps:Array Value}{R:Type}{r:R}
variable {tm:List Slot}{rs:RS}{dst:Option Nat}{m:Machine}{mk mp:Value->World->Machine}{kp:AVal->RS->Option R}{k:Slot->RS->Option R}{ds:List Deferred}
theorem oL(h:Rel P ans B0 w Z J ow an (sl an tm rs) tmps rs.sto.objs):∀{ps:List (Nat×Operand)}{k:List (Nat×AVal)->Option R},hQ an.keep tm rs ps k=some r ->
  ∃l,k l=some r/\l.length=ps.length/\∀(n:Nat)(p:Nat×AVal)(q:Nat×Operand),l[n]?=some p->ps[n]?=some q->p.1=q.1/\VRel Z J p.2 ((⟨tmps,ds⟩:Act).eval q.2)
 |[],k,e=>⟨[],by simpa[hQ] using e,rfl,λn p q hp=>by simp at hp⟩
 |(i,x)::ps,k,e=>by
  simp only[hQ] at e;obtain⟨t,hs,_⟩:=bH (ds:=ds) h x;obtain⟨y,e1,hy⟩:=jK hs e;obtain⟨l,e2,hl,hr⟩:=oL h e1;refine⟨(i,y)::l,e2,by simp[hl],λn p q hp hq=>?_⟩;cases n with
  |zero=>simp at hp hq;subst hp;subst hq;exact⟨rfl,hy⟩
  |succ n=>simp at hp hq;exact hr n p q hp hq
theorem dx:∀(l:List Value)(k off:Nat)(cells:Array Value),off+k+l.length<=cells.size ->
  (l.zipIdx k).foldl (λcs (p:Value×Nat)=>cs.setIfInBounds (off+p.2) p.1) cells=⟨overwrite cells.toList (off+k) l⟩
 |[],k,off,cells,_=>by simp[overwrite]
 |v::l,k,off,cells,h=>by
  simp only[Ay] at h;rw[List.zipIdx_cons,Dy,dx l (k+1) off (cells.setIfInBounds (off+k) v) (by simp;omega)];congr 1;have AR:off+k<cells.toList.length:=by simp;omega
  unfold overwrite;rw[show off+(k+1)=off+k+1 by omega,Array.toList_setIfInBounds,Gr (by simpa using AR)];simp only[Hp,Ay];rw[List.take_set_of_le (Ae _),List.drop_set_of_lt (by omega)];simp[show off+k+1+l.length=off+k+(l.length+1) by omega]
theorem kA(cells:Array Value)(off:Nat)(v:Value)(h:off+v.cells.size<=cells.size) :
  v.cells.zipIdx.foldl (λcs (c,j)=>cs.setIfInBounds (off+j) c) cells=⟨overwrite cells.toList off v.cells.toList⟩:=by
 have:=dx v.cells.toList 0 off cells (by simpa using h)
 rw[<-Eg,Array.toList_zipIdx];simpa using this
theorem aAw{place:Nat->Option (Nat×Nat)}{i0:Nat}:∀{l:List (Nat×AVal)}{lv:List (Nat×Value)}{cs BZ:List Cell}{vs:List Value},u9 place cs l=some BZ->l.length=lv.length ->
  (∀(n:Nat) p q,l[n]?=some p->lv[n]?=some q->p.1=q.1/\VRel Z J p.2 q.2)->CsRel w B0 Z J ow false i0 cs vs ->
  ∃B7,Instr.fill place ⟨vs⟩ lv=some ⟨B7⟩/\CsRel w B0 Z J ow false i0 BZ B7
 |[],[],cs,BZ,vs,e,_,_,hc=>by simp[u9] at e;subst e;exact⟨vs,rfl,hc⟩
 |[],_::_,_,_,_,_,hl,_,_=>by simp at hl
 |_::_,[],_,_,_,_,hl,_,_=>by simp at hl
 |(i,x)::l,(i',v)::lv,cs,BZ,vs,e,hl,hr,hc=>by
  obtain⟨hi,hx⟩:=hr 0 (i,x) (i',v) (by simp) (by simp);simp only at hi hx;subst hi;simp only[u9] at e;obtain⟨⟨off,s⟩,hp,e⟩:=aC e;simp only at e;cases CD:Nat.beq x.cells.length s&&Nat.ble (off+s) cs.length with
  |false=>simp[CD] at e
  |true =>
   simp only[CD,Ba] at e;simp only[Ac] at CD;have h1:x.cells.length=s:=Aa CD.1;have h2:off+s<=cs.length:=Ah CD.2;have Jc:=hx.csRel (w:=w) (B0:=B0) (ow:=ow) false i0;have hlen:v.cells.toList.length=s:=by rw[<-h1];simpa using Jc.1.symm
   have hvl:vs.length=cs.length:=hc.1.symm
   have D1:CsRel w B0 Z J ow false i0 (cs.take off++x.cells.map .val++cs.drop (off+x.cells.length)) (overwrite vs off v.cells.toList):=by
    have heq:cs.take off++x.cells.map .val++cs.drop (off+x.cells.length)=overwrite cs off (x.cells.map .val):=by simp[overwrite]
    rw[heq];refine⟨by rw[aN _ _ _ (by simp;omega),aN _ _ _ (by rw[hlen];omega)];exact hc.1,λj c u Jq Ly=>?_⟩;rw[aR _ _ _ _ (by simp;omega)] at Jq;rw[aR _ _ _ _ (by rw[hlen];omega),hlen,<-h1] at Ly;simp only[Cb] at Jq;by_cases g1:j<off
    ·rw[Bo g1] at Jq Ly;exact hc.2 j c u Jq Ly
    ·rw[Ax g1] at Jq Ly
     by_cases g2:j<off+x.cells.length
     ·rw[Bo g2] at Jq Ly
      have:=Jc.2 (j-off) c u Jq Ly
      simp only[Ao,Al] at Jq;obtain⟨c',_,rfl⟩:=Jq;cases this with|val _ _ a b=>exact .val _ _ a b
     ·rw[Ax g2] at Jq Ly;exact hc.2 j c u Jq Ly
   obtain⟨B7,f1,f2⟩:=aAw e (by simpa using hl) (λn p q LV JG=>hr (n+1) p q (by simpa using LV) (by simpa using JG)) D1;refine⟨B7,?_,f2⟩;have BG:v.cells.size=s:=by simpa using hlen
   simp only[Instr.fill,hp];rw[Ax (by simp[BG];omega),kA _ _ _ (by simp;omega)];exact f1
theorem aDY(h:Rel P ans B0 w Z J ow an (sl an tm rs) tmps rs.sto.objs){t:TypeId}{parts:Array (Nat×Operand)}{cs z:List Cell}{l:List (Nat×AVal)}(hz:zeroCells P t=some z)(hl:l.length=parts.toList.length)
  (hr:∀(n:Nat)(p:Nat×AVal)(q:Nat×Operand),l[n]?=some p->parts.toList[n]?=some q->p.1=q.1/\VRel Z J p.2 ((⟨tmps,ds⟩:Act).eval q.2)) {place:Nat->Option (Nat×Nat)} (hf:u9 place z l=some cs)
  (hb:∀zv,(P.info? t).bind (·.zero)=some zv->P.built t (parts.map λ(i,x)=>(i,(⟨tmps,ds⟩:Act).eval x)).toList=Instr.fill place zv.cells (parts.map λ(i,x)=>(i,(⟨tmps,ds⟩:Act).eval x)).toList) :
  ∃vs,(Instr.build t (parts.map λ(i,x)=>(i,(⟨tmps,ds⟩:Act).eval x))).run P w=.ok (.agg ⟨vs⟩) w/\CsRel w B0 Z J ow false an.nt cs vs:=by
 obtain⟨zv,Hy,HE⟩:=qM (w:=w) (B0:=B0) (Z:=Z) (J:=J) (ow:=ow) hz false an.nt
 obtain⟨B7,f1,f2⟩:=aAw (lv:=(parts.map λ(i,x)=>(i,(⟨tmps,ds⟩:Act).eval x)).toList) hf (by simpa using hl) (λn p q hp hq=>by
  simp only[Gv,Ao,Al] at hq;obtain⟨q',JG,rfl⟩:=hq;exact hr n p q' hp JG) HE
 refine⟨B7,run_build w t _ ⟨B7⟩ ?_,f2⟩;rw[hb zv Hy];exact f1
theorem oE{s:Nat}:∀{l:List (Nat×AVal)}{lv:List (Nat×Value)}{xs xs':List AVal}{vs:List Value},dU s xs l=some xs'->l.length=lv.length ->
  (∀(n:Nat) p q,l[n]?=some p->lv[n]?=some q->p.1=q.1/\VRel Z J p.2 q.2)->(∀x∈xs,x.cells.length=s/\clean x=true) ->
  ((aM xs).length=vs.length/\∀(p:Nat) c v,(aM xs)[p]?=some c->vs[p]?=some v->VRel Z [] c v) ->
  ∃B7,Instr.fill (λi=>some (i*s,s)) ⟨vs⟩ lv=some ⟨B7⟩/\xs'.length=xs.length/\(∀x∈xs',x.cells.length=s/\clean x=true) /\
   ((aM xs').length=B7.length/\∀(p:Nat) c v,(aM xs')[p]?=some c->B7[p]?=some v->VRel Z [] c v)
 |[],[],xs,xs',vs,e,_,_,hx,hc=>by simp[dU] at e;subst e;exact⟨vs,rfl,rfl,hx,hc⟩
 |[],_::_,_,_,_,_,hl,_,_,_=>by simp at hl
 |_::_,[],_,_,_,_,hl,_,_,_=>by simp at hl
 |(i,x)::l,(i',v)::lv,xs,xs',vs,e,hl,hr,hx,hc=>by
  obtain⟨hi,Jc⟩:=hr 0 (i,x) (i',v) (by simp) (by simp);simp only at hi Jc;subst hi;simp only[dU] at e;cases CD:Nat.beq x.cells.length s&&Nat.blt i xs.length&&clean x with
  |false=>simp[CD] at e
  |true =>
   simp only[CD,Ba] at e;simp only[Ac] at CD;have h1:x.cells.length=s:=Aa CD.1.1;have h2:i<xs.length:=by have:=CD.1.2;simpa[Dc] using this
   have hvc:v.cells.toList.length=s:=by rw[<-h1];simpa using(Jc.cells).1.symm
   have Mh:∀y∈xs,y.cells.length=s:=λy hy=>(hx y hy).1
   have IU:∀y∈xs.set i x,y.cells.length=s/\clean y=true:=λy hy=>by
    rcases List.mem_or_eq_of_mem_set hy with h'|h'
    ·exact hx y h'
    ·subst h';exact⟨h1,CD.2⟩
   have hx3:∀y∈xs.set i x,y.cells.length=s:=λy hy=>(IU y hy).1
   have JI:(aM xs).length=xs.length*s:=bS Mh
   have hmul:i*s+s<=xs.length*s:=by
    have:=Cr s (show i+1<=xs.length by omega)
    rw[Ct] at this;omega
   have hvl:i*s+s<=vs.length:=by rw[<-hc.1,JI];exact hmul
   have dA:(aM (xs.set i x)).length=(overwrite vs (i*s) v.cells.toList).length/\∀(p:Nat) c u,(aM (xs.set i x))[p]?=some c->(overwrite vs (i*s) v.cells.toList)[p]?=some u->VRel Z [] c u:=by
    refine⟨by rw[bS hx3,aN _ _ _ (by rw[hvc];exact hvl),<-hc.1,JI];simp,λp c u DC Mt=>?_⟩;obtain⟨a,j,y,rfl,hj,PD,hyc⟩:=gC hx3 DC;rw[aR _ _ _ _ (by rw[hvc];exact hvl),hvc] at Mt;rw[Cw] at PD;by_cases Vx:i=a
    ·subst Vx
     simp[h2] at PD;subst PD;rw[Ax (by omega),Bo (by omega),show i*s+j-i*s=j by omega] at Mt;exact((Jc.clean (J':=[]) CD.2).cells).2.2 j c u hyc (by simpa using Mt)
    ·rw[Ax Vx] at PD
     have BD:¬(i*s<=a*s+j/\a*s+j<i*s+s):=by
      rintro⟨g1,g2⟩
      rcases Nat.lt_or_gt_of_ne Vx with h'|h'
      ·have:=Cr s (show i+1<=a by omega);rw[Ct] at this;omega
      ·have:=Cr s (show a+1<=i by omega);rw[Ct] at this;omega
     have hpu':vs[a*s+j]?=some u:=by
      by_cases g1:a*s+j<i*s
      ·rw[Bo g1] at Mt;exact Mt
      ·rw[Ax g1,Ax (by omega)] at Mt;exact Mt
     exact hc.2 (a*s+j) c u (by rw[gB Mh PD hj];exact hyc) hpu'
   obtain⟨B7,f1,f2,f3,f4⟩:=oE e (by simpa using hl) (λn p q LV JG=>hr (n+1) p q (by simpa using LV) (by simpa using JG)) IU dA;refine⟨B7,?_,by simpa using f2,f3,f4⟩;have BG:v.cells.size=s:=by simpa using hvc
   simp only[Instr.fill];rw[Ax (by simp[BG];omega),kA _ _ _ (by simp[BG];omega)];exact f1
theorem pP(n:Nat)(z:AVal):∀(p:Nat) c,(aM (List.replicate n z))[p]?=some c->z.cells[p%z.cells.length]?=some c:=by
 intro p c h;obtain⟨i,j,x,rfl,hj,hx,hc⟩:=gC (s:=z.cells.length) (λx hx=>by rw[Fq hx]) h
 have:x=z:=Fq (Be hx)
 subst this;rw[Hl,Nat.mul_add_mod,Ey hj];exact hc
theorem az(h:Rel P ans B0 w Z J ow an (sl an tm rs) tmps rs.sto.objs){t e:TypeId}{len s:Nat}{parts:Array (Nat×Operand)}{z:AVal}{xs:List AVal}{l:List (Nat×AVal)}(he:P.underlying t=some (.slice e))(hs:bA P e=some s)(CR:0<s)(VX:len*s<=16777216)
  (hz:zeroOf P e=some z) (HD:z.cells.length=s) (VI:clean z=true) (hl:l.length=parts.toList.length)
  (hr:∀(n:Nat)(p:Nat×AVal)(q:Nat×Operand),l[n]?=some p->parts.toList[n]?=some q->p.1=q.1/\VRel Z J p.2 ((⟨tmps,ds⟩:Act).eval q.2)) (hf:dU s (List.replicate len z) l=some xs) :
  ∃v w' Z',(Instr.buildSlice t len (parts.map λ(i,x)=>(i,(⟨tmps,ds⟩:Act).eval x))).run P w=.ok v w'/\Rel P ans B0 w' Z' J ow an (sl an tm rs) tmps rs.sto.objs/\SRel w' B0 Z' J ow tmps an.nt (.full xs) v/\Fr w Z ow w' Z' ow:=by
 simp only[zeroOf,Ch] at hz;obtain⟨zv,⟨ti,D0,IQ⟩,Hy⟩:=hz;have HN:VRel Z [] z zv:=fX Hy;have hzsz:zv.cells.size=s:=by rw[<-HD];exact(HN.cells).1.symm
 have hzx:∀x∈List.replicate len z,x.cells.length=s/\clean x=true:=λx hx=>by rw[Fq hx];exact⟨HD,VI⟩
 let init:List Value:=(List.range (len*s)).map λp=>zv.cells[p%zv.cells.size]!
 have hinit:(aM (List.replicate len z)).length=init.length/\∀(p:Nat) c v,(aM (List.replicate len z))[p]?=some c->init[p]?=some v->VRel Z [] c v:=by
  refine⟨by rw[bS (λx hx=>(hzx x hx).1)];simp[init],λp c v hc hv=>?_⟩;have hp:p<len*s:=by have:=(Ab.1 hv).1;simpa[init] using this
  simp only[init,Ao,Cv hp,Bw,Ak] at hv;have CA:=pP len z p c hc;rw[HD] at CA;have hm:p%s<zv.cells.size:=by rw[hzsz];exact Fc _ CR
  rw[hzsz] at hv;refine(HN.cells).2.2 (p%s) c v CA ?_;rw[<-hv];simp[hm]
 obtain⟨B7,f1,f2,f3,f4⟩:=oE (lv:=(parts.map λ(i,x)=>(i,(⟨tmps,ds⟩:Act).eval x)).toList) (Z:=Z) (J:=J) hf (by simpa using hl) (λn p q hp hq=>by
  simp only[Gv,Ao,Al] at hq;obtain⟨q',JG,rfl⟩:=hq;exact hr n p q' hp JG) hzx hinit
 have C9:∀x∈xs,x.cells.length=s:=λx hx=>(f3 x hx).1
 have AZ:(Instr.buildSlice t len (parts.map λ(i,x)=>(i,(⟨tmps,ds⟩:Act).eval x))).run P w=.ok (.slice (some ⟨w.heap.size,0,none⟩) len len) (w.alloc (.cells ⟨B7⟩ e)):=by
  have C1:(Array.range (len*s)).map (λp=>zv.cells[p%zv.cells.size]!)=⟨init⟩:=by
   apply Cg;simp[init]
  by_cases h0:len*s=0
  ·have hlen0:len=0:=by rcases Gx.1 h0 with h'|h'
                        ·exact h'
                        ·omega
   subst hlen0;have hinit0:init=[]:=by simp[init]
   rw[hinit0] at f1;have harr0:(#[]:Array Value)=⟨[]⟩:=rfl;simp only[Instr.buildSlice,Sem.run_bind,run_underlying he,Result.andThen_ok,run_sizeOf hs];simp;have Na:Instr.fill (λi=>some (i*s,s)) #[] (parts.map λ(i,x)=>(i,(⟨tmps,ds⟩:Act).eval x)).toList=some ⟨B7⟩:=f1;simp at Na;have LQ:Array.map (λ_:Nat=>(default:Value)) (Array.range 0)=#[]:=by apply Cg;simp
   simp[LQ,Na,newRow]
  ·have hle:¬len*s>2^24:=by omega
   simp only[Instr.buildSlice,Sem.run_bind,run_underlying he,Result.andThen_ok,run_sizeOf hs];have PC:(P.info? e).bind (·.zero)=some zv:=by rw[D0];exact IQ
   rw[<-C1] at f1;simp at f1;simp[h0,hle,aS PC,f1,newRow]
 have hτ:∀off c,(λoff=>(aM xs)[off]?) off=some c->flat c=true/\∃v,(w.alloc (.cells ⟨B7⟩ e)).cell? ⟨w.heap.size,off,none⟩=some v/\VRel Z [] c v:=λoff c hc=>by
  obtain⟨i,j,x,rfl,hj,hx,VL⟩:=gC C9 hc;have EN:i*s+j<B7.length:=by rw[<-f4.1];exact(Ab.1 hc).1
  refine⟨?_,B7[i*s+j],?_,f4.2 _ c _ hc (by simp[EN])⟩
  ·have:=(f3 x (Be hx)).2
   exact An.1 this c (Be VL)
  ·rw[cell_of_heap (heap_alloc_new _)];simp[EN]
 have hR:=h.alloc (o:=.cells ⟨B7⟩ e) (τ:=λoff=>(aM xs)[off]?) (id:=none) hτ;have hF:=Fr.alloc (ow:=ow) (o:=.cells ⟨B7⟩ e) (τ:=λoff=>(aM xs)[off]?) (id:=none) h.wsat
 have I1:oset ow w.heap.size none=ow:=by
  funext b;unfold oset;split
  ·subst_vars
   cases e1:ow w.heap.size with
   |none=>rfl
   |some y=>have:=h.lt w.heap.size (by simp[e1]);omega
  ·rfl
 rw[I1] at hR hF;refine⟨_,_,_,AZ,hR,.full xs _ len ?_,hF⟩;have hlen:xs.length=len:=by rw[f2];simp
 exact .of_rows (s:=s) hlen (Ae _) C9 λ_=>⟨_,_,rfl,λp c hc=>by simpa[dA] using hc⟩
def Slot.free:Slot->Bool
 |.box _=>false
 |.ref _ _=>false
 |.cells _=>false
 |.dead=>false
 |_=>true
def eI(P:Program)(ans:FuncId->AK)(B0:Nat)(w:World)(Z:HT)(J:List Nat)(ow:Own)(sto:AN)(c:Frame)(cs:List Frame)(m:Machine)(res:ARes)(AL:AN):Prop :=
 ∃w' Z' J' AP,Fr w Z ow w' Z' AP/\pre J J'/\WSat Z' w'/\OsRel w' B0 Z' J' AP ans AL.objs/\(∀b,AP b≠none->b<w'.heap.size)/\StoLe sto AL /\
  match res with
  |.ret s=>s.free=true/\∃v,SRel w' B0 Z' J' AP #[] 0 s v/\Steps P m (lone (c.finish v) cs w')
  |.pan x=>∃v,VRel Z' J' x v/\Steps P m (lone (c.raise [{ v,recovered:=false }]) cs w')
structure dW (ans:FuncId->AK) (B0:Nat) (w:World) (Z:HT) (J:List Nat) (ow:Own) (args:List Slot) (vs:Array Value) (sto:AN):Prop where
 wsat:WSat Z w
 base:B0<=w.heap.size
 lt:∀b,ow b≠none->b<w.heap.size
 size:args.length=vs.size
 free:∀s∈args,s.free=true
 args:∀(i:Nat) s,args[i]?=some s->SRel w B0 Z J ow #[] i s (vs.getD i undef)
 objs:OsRel w B0 Z J ow ans sto.objs
 lo:sto.lo<=sto.objs.length
structure kZ (P:Program) (ans:FuncId->AK) (B0:Nat) (cf:aO):Prop where
 fn:∀f args sto res AL,cf (.fn f) args sto=some (res,AL) ->
  (∃F,P.funcs[f]?=some F/\F.body.isSome=true/\F.name≠ "runtime.NumGoroutine")/\∀w Z J ow vs,dW ans B0 w Z J ow args vs sto->∀c cs,eI P ans B0 w Z J ow sto c cs (lone (Frame.enter P f vs .normal) (c::cs) w) res AL
 yld:∀i args sto res AL,cf (.yld i) args sto=some (res,AL) ->
  ∃al,sto.objs[i]?=some (.loop al)/\args.length=al.params.size/\∀w Z J ow vs,dW ans B0 w Z J ow args vs sto->∀l rr,J[i]?=some l->w.heap[l]?=some (.loop rr)->∀c cs,
   eI P ans B0 w Z J ow sto c cs (lone (Frame.round l rr.fn ((rr.params.zip vs).foldl (λt (p,a)=>t.setIfInBounds p a) rr.tmps) rr.assign rr.body .normal) (c::cs) w) res AL
theorem SRel.free_tmps{tmps':Array Value}{t:Nat}{s:Slot}{v:Value}(h:SRel w B0 Z J ow tmps t s v)(hf:s.free=true):SRel w B0 Z J ow tmps' t s v :=
 h.mono Z.le_refl (aI _) (Same.refl _ _ _ _ _) (λu o e=>by subst e;simp[Slot.free] at hf)
theorem rI:∀{xs:List Operand}{rs:RS}{ow:Own}{own:List Nat}{i:Nat}{k:List Slot->RS->Option R},Rel P ans B0 w Z J ow an (sl an tm rs) tmps rs.sto.objs->gP an.keep tm rs own i xs k=some r ->
  ∃l rs' AP,k l rs'=some r/\Rel P ans B0 w Z J AP an (sl an tm rs') tmps rs'.sto.objs/\rs'.sto=rs.sto/\l.length=xs.length/\(∀s∈l,s.free=true) /\
   (∀(j:Nat) s x,l[j]?=some s->xs[j]?=some x->SRel w B0 Z J AP #[] (an.nt+1+i+j) s ((⟨tmps,ds⟩:Act).eval x))/\Fr w Z ow w Z AP /\
   (∀q,an.nt<=q->q<an.nt+1+i->Same w Z ow w Z AP false q false q)
 |[],rs,ow,own,i,k,h,e=>⟨[],rs,ow,by simpa[gP] using e,h,rfl,rfl,by simp,λj s x hs=>by simp at hs,Fr.refl _ _ _,λq _ _=>Same.refl _ _ _ _ _⟩
 |x::xs,rs,ow,own,i,k,h,e=>by
  obtain⟨t,hs,ht⟩:=bH (ds:=ds) h x
  have plain:∀s0,s0.free=true->(∀sz l,s0≠.own sz l)->SRel w B0 Z J ow tmps 0 s0 ((⟨tmps,ds⟩:Act).eval x)->gP an.keep tm rs own (i+1) xs (λl rs'=>k (s0::l) rs')=some r ->
    ∃l rs' AP,k l rs'=some r/\Rel P ans B0 w Z J AP an (sl an tm rs') tmps rs'.sto.objs/\rs'.sto=rs.sto/\l.length=(x::xs).length/\(∀s∈l,s.free=true) /\
     (∀(j:Nat) s y,l[j]?=some s->(x::xs)[j]?=some y->SRel w B0 Z J AP #[] (an.nt+1+i+j) s ((⟨tmps,ds⟩:Act).eval y))/\Fr w Z ow w Z AP /\
     (∀q,an.nt<=q->q<an.nt+1+i->Same w Z ow w Z AP false q false q):=λs0 hf hno GX e'=>by
   obtain⟨l,rs',AP,e1,h1,h2,h3,D4,h4,h5,h6⟩:=rI h e';refine⟨s0::l,rs',AP,e1,h1,h2,by simp[h3],λs hs=>?_,λj s y hj hy=>?_,h5,λq Ms V7=>h6 q Ms (by omega)⟩
   ·rcases Bb.1 hs with hs|hs
    ·subst hs;exact hf
    ·exact D4 s hs
   cases j with
   |zero =>
    simp at hj hy;subst hj;subst hy
    have:=(GX.at (t':=an.nt+1+i) hno (λcs e=>by subst e;simp[Slot.free] at hf) (λcs e=>by subst e;simp[Slot.free] at hf)).free_tmps (tmps':=#[]) hf
    exact this.mono Z.le_refl (aI _) (h6 (an.nt+1+i) (by omega) (by omega)) (λ_ _ _=>rfl)
   |succ j =>
    simp at hj hy
    have:=h4 j s y hj hy
    rwa [show an.nt+1+(i+1)+j=an.nt+1+i+(j+1) by omega] at this
  have Hr:A9 an.keep tm rs x=.nl->SRel w B0 Z J ow tmps 0 .nl ((⟨tmps,ds⟩:Act).eval x):=λBJ=>by
   rw[BJ] at hs;generalize(⟨tmps,ds⟩:Act).eval x=v at hs;cases hs with|nl=>exact .nl
  simp only[gP] at e
  split at e
  ·rename_i sz l0 t' _ BJ
   obtain rfl:=ht t' rfl;have BN:sl an tm rs t=.own sz l0:=BJ;have hx:VRel Z J (.slice l0) (tmps.getD t undef):=by have:=h.slots t;rw[BN] at this;cases this with|own _ _ _ hv=>exact hv.val
   have JC:t<an.nt:=h.lt_of (by rw[BN];simp);obtain⟨h1,h2⟩:=h.take t JC (.slice l0) hx (by rw[BN];simp) (an.nt+1+i);rw[show upd (sl an tm rs) t (.val (.slice l0))=sl an tm (rs.put t (.val (.slice l0))) from(dS _ _ _ _ _).symm] at h1;obtain⟨l,rs',AP,e1,g1,g2,g3,gfr,g4,g5,g6⟩:=rI h1 e;refine⟨.own sz l0::l,rs',AP,e1,g1,g2,by simp[g3],λs hs=>?_,λj s y hj hy=>?_,(Fr.ren w Z ow).trans g5,λq Ms V7=>?_⟩
   ·rcases Bb.1 hs with hs|hs
    ·subst hs;rfl
    ·exact gfr s hs
   ·cases j with
    |zero =>
     simp at hj hy;subst hj;subst hy;rw[BN] at h2
     have:=(h2.free_tmps (tmps':=#[]) rfl)
     exact this.mono Z.le_refl (aI _) (g6 (an.nt+1+i) (by omega) (by omega)) (λ_ _ _=>rfl)
    |succ j =>
     simp at hj hy
     have:=g4 j s y hj hy
     rwa [show an.nt+1+(i+1)+j=an.nt+1+i+(j+1) by omega] at this
   ·have s1:=fP w Z ow (k1:=false) (i1:=t) (k2:=false) (i2:=an.nt+1+i) (off:=0) (k:=false) (i:=q) (by simp;omega)
    intro b s hb;obtain⟨a1,_,_⟩:=s1 b s hb;exact g6 q Ms (by omega) b s a1
  ·exact plain .nl rfl (by simp) (Hr (by assumption)) e
  ·obtain⟨y,e1,hy⟩:=jK hs e
   exact plain (.val y) rfl (by simp) (.val _ _ hy) e1
def sA(nt:Nat)(ow:Own):Own:=λb =>
 match ow b with
 |some (true,i,s)=>some (true,i,s)
 |some (false,t,s)=>if nt+1<=t then some (false,t-(nt+1),s) else none
 |none=>none
def fS(nt:Nat)(ow D8:Own):Own:=λb =>
 match D8 b with
 |some (true,i,s)=>some (true,i,s)
 |some (false,t,s)=>some (false,nt+t,s)
 |none=>match ow b with
  |some (false,t,s)=>if t<nt then some (false,t,s) else none
  |_=>none
theorem aA2{nt:Nat}{b:Nat}(h:sA nt ow b≠none):ow b≠none:=by intro e;simp[sA,e] at h
theorem gj(h:Rel P ans B0 w Z J ow an (sl an tm rs) tmps rs.sto.objs)(sto:AN)(Jf:sto.objs=rs.sto.objs)(AW:sto.lo<=sto.objs.length){l:List Slot}{xs:List Operand}(hl:l.length=xs.length)(D4:∀s∈l,s.free=true)
  (ha:∀(j:Nat) s x,l[j]?=some s->xs[j]?=some x->SRel w B0 Z J ow #[] (an.nt+1+0+j) s ((⟨tmps,ds⟩:Act).eval x)) {caps:List AVal} {cv:List Value} (B5:caps.length=cv.length)
  (hc:∀(i:Nat) c v,caps[i]?=some c->cv[i]?=some v->VRel Z J c v) :
  dW ans B0 w Z J (sA an.nt ow) (l++caps.map .val) ⟨xs.map (⟨tmps,ds⟩:Act).eval++cv⟩ sto where
 wsat:=h.wsat
 base:=h.base
 lt:=λb hb=>h.lt b (aA2 hb)
 size:=by simp[hl,B5]
 free:=λs hs=>by
  rcases Bs.1 hs with hs|hs
  ·exact D4 s hs
  ·obtain⟨c,_,rfl⟩:=Cu.1 hs;rfl
 args:=λi s hs=>by
  have B4:Same w Z ow w Z (sA an.nt ow) false (an.nt+1+0+i) false i:=λb s hb=>by
   refine⟨?_,rfl,λ_ h=>h⟩;simp only[sA,hb];rw[Bo (by omega)];congr 3;omega
  rw[Cf] at hs
  split at hs
  ·rename_i hi
   have EJ:i<xs.length:=by rw[<-hl];exact hi
   have hg:(⟨xs.map (⟨tmps,ds⟩:Act).eval++cv⟩:Array Value).getD i undef=(⟨tmps,ds⟩:Act).eval xs[i]:=by
    simp[Af,Cf,EJ]
   rw[hg];exact(ha i s xs[i] hs (by simp[EJ])).mono Z.le_refl (aI _) B4 (λ_ _ _=>rfl)
  ·rename_i hi
   rw[Ao,Al] at hs;obtain⟨c,BU,rfl⟩:=hs;have AR:i-l.length<cv.length:=by rw[<-B5];exact(Ab.1 BU).1
   have hg:(⟨xs.map (⟨tmps,ds⟩:Act).eval++cv⟩:Array Value).getD i undef=cv[i-l.length]:=by
    simp only[Af,List.getElem?_toArray];rw[Bh (by simp;omega)];simp[<-hl,AR]
   rw[hg];exact .val _ _ (hc _ c _ BU (by simp[AR]))
 objs:=by
  rw[Jf];exact h.objs.mono Z.le_refl λi _ b s hb=>⟨by simp[sA,hb],rfl,λ_ h=>h⟩
 lo:=AW
theorem xW(h:Rel P ans B0 w Z J ow an (sl an tm rs) tmps rs.sto.objs){w':World}{Z':HT}{J':List Nat}{D8:Own}(hF:Fr w Z (sA an.nt ow) w' Z' D8)(hp:pre J J')(hw:WSat Z' w'){EV:List AObj}{J2:List Nat}(E6:pre J J2)
  (ho:OsRel w' B0 Z' J2 D8 ans EV) (AR:∀b,D8 b≠none->b<w'.heap.size) :
  Rel P ans B0 w' Z' J2 (fS an.nt ow D8) an (sl an tm rs) tmps EV/\Fr w Z ow w' Z' (fS an.nt ow D8):=by
 have P4:∀b,b<w.heap.size->sA an.nt ow b=none->D8 b=none:=λb hb hn=>by
  cases e:D8 b with
  |none=>rfl
  |some x =>
   rcases hF.own b (by simp[e]) with h'|h'
   ·exact absurd hn h'
   ·omega
 have L8:∀u,u<an.nt->Same w Z ow w' Z' (fS an.nt ow D8) false u false u:=λu hu b s hb=>by
  have AX:=h.lt b (by simp[hb])
  have GN:sA an.nt ow b=none:=by
   simp only[sA,hb];rw[Ax (by omega)]
  have hr:=P4 b AX GN;obtain⟨k1,k2⟩:=hF.keep b AX GN;exact⟨by simp[fS,hr,hb,hu],k1,λo ho=>by rw[k2 o];exact ho⟩
 have Jj:∀i,Same w' Z' D8 w' Z' (fS an.nt ow D8) true i true i:=λi b s hb=>⟨by simp[fS,hb],rfl,λ_ h=>h⟩
 refine⟨⟨h.size,hw,λu=>?_,h.refs,h.boxes,ho.mono Z'.le_refl (λi _=>Jj i),λb hb=>?_,Bj h.base hF.size,h.hi⟩,⟨hF.le,hF.size,λb hb hn=>hF.keep b hb (by simp[sA,hn]),λb hb=>?_,hF.os,hF.tape,hF.output⟩⟩
 ·rcases Ck u an.nt with h2|h2
  ·exact(h.slots u).mono hF.le E6 (L8 u h2) (λ_ _ _=>rfl)
  ·rw[h.hi u h2];exact .dead _
 ·cases e:D8 b with
  |some x=>exact AR b (by simp[e])
  |none =>
   have:ow b≠none:=by
    intro e2;simp[fS,e,e2] at hb
   exact Bx (h.lt b this) hF.size
 ·cases e:D8 b with
  |some x =>
   rcases hF.own b (by simp[e]) with h'|h'
   ·exact .inl (aA2 h')
   ·exact .inr h'
  |none =>
   left;intro e2;simp[fS,e,e2] at hb
end
end Go.AM
