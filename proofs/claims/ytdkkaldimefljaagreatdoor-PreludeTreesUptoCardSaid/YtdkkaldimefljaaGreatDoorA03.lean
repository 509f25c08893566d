import Derived.Test.YtdkkaldimefljaaGreatDoorA02
import Derived.Laws.Tables
set_option linter.all false
section
namespace Go.AM
variable {P:Program} {ans:FuncId→Ann} {an:Ann} {w:World} {B0:Nat} {Ψ:HT} {ρ:List Nat} {ow:Own} {tmps:Array Value} {R:Type} {r:R}
def aM (xs:List AVal):List AVal:=xs.flatMap AVal.cells
theorem bO:∀ {xs:List AVal} {s:Nat},(∀ x∈xs,x.cells.length=s)→(aM xs).length=xs.length * s
 |[],s,_=>by simp [aM]
 |x::xs,s,h=>by
  have:=bO (xs:=xs) (s:=s) (fun y hy=>h y (by simp [hy]))
  simp only[aM,List.flatMap_cons,List.length_append,List.length_cons] at this ⊢;rw[this,h x (by simp),Nat.add_mul];omega
theorem gU:∀ {xs:List AVal} {s:Nat},(∀ x∈xs,x.cells.length=s)→∀ {i j:Nat} {x:AVal},xs[i]?=some x→j < s→(aM xs)[i * s+j]?=x.cells[j]?
 |[],s,_,i,j,x,hx,_=>by simp at hx
 |y::xs,s,h,0,j,x,hx,hj=>by
  simp at hx;subst hx;simp only[aM,List.flatMap_cons,Nat.zero_mul,Nat.zero_add];rw[List.getElem?_append_left (by rw[h y (by simp)];exact hj)]
 |y::xs,s,h,i+1,j,x,hx,hj=>by
  simp at hx;have ih:=gU (xs:=xs) (s:=s) (fun z hz=>h z (by simp [hz])) hx hj;simp only[aM,List.flatMap_cons] at ih ⊢;rw[List.getElem?_append_right (by rw[h y (by simp),Nat.add_mul];omega),h y (by simp),show (i+1) * s+j - s=i * s+j by rw[Nat.add_mul];omega];exact ih
theorem gW {xs:List AVal} {s:Nat} (h:∀ x∈xs,x.cells.length=s) {p:Nat} {c:AVal} (hc:(aM xs)[p]?=some c):∃ i j x,p=i * s+j∧j < s∧xs[i]?=some x∧x.cells[j]?=some c:=by
 have hp:p < xs.length * s:=by rw[←bO h];exact (List.getElem?_eq_some_iff.1 hc).1
 have hs:0 < s:=by
  rcases Nat.eq_zero_or_pos s with e|e
  ·subst e;simp at hp
  ·exact e
 have hi:p / s < xs.length:=by rw[Nat.div_lt_iff_lt_mul hs];exact hp
 have hj:=Nat.mod_lt p hs;have he:p=p / s * s+p % s:=by rw[Nat.mul_comm];exact (Nat.div_add_mod p s).symm
 refine ⟨p / s,p % s,xs[p / s],he,hj,by simp [hi],?_⟩
 have:=gU h (i:=p / s) (j:=p % s) (x:=xs[p / s]) (by simp [hi]) hj
 rw[←this,←he];exact hc
theorem eU (xs ys:List AVal):aM (xs++ys)=aM xs++aM ys:=by simp [aM]
theorem VRel.rows {xs:List AVal} {a:Option Addr} {len cap s:Nat} (h:VRel Ψ ρ (.slice xs) (.slice a len cap)) (hs:∀ x∈xs,x.cells.length=s) :
  xs.length=len∧len≤cap∧(xs≠[]→∃ b o,a=some ⟨b,o,none⟩∧∀ (p:Nat) c,(aM xs)[p]?=some c→Ψ b (o+p) c):=by
 cases h with
 |slice _ _ _ _ s' hl hc hx =>
  refine ⟨hl,hc,fun hne=>?_⟩;obtain ⟨x0,rest,rfl⟩:=List.exists_cons_of_ne_nil hne;obtain ⟨e0,b,o,ha,_⟩:=hx 0 x0 (by simp);have es:s'=s:=by rw[←e0];exact hs x0 (by simp)
  refine ⟨b,o,ha,fun p c hc=>?_⟩;obtain ⟨i,j,x,rfl,hj,hxi,hxc⟩:=gW hs hc;obtain ⟨_,b',o',ha',ht⟩:=hx i x hxi;rw[ha] at ha';obtain ⟨rfl,rfl⟩:b=b'∧o=o':=by simpa using ha'
  have:=ht j c hxc
  rw[es] at this
  rwa [←Nat.add_assoc]
theorem VRel.of_rows {xs:List AVal} {a:Option Addr} {len cap s:Nat} (hl:xs.length=len) (hc:len≤cap) (hs:∀ x∈xs,x.cells.length=s)
  (h:xs≠[]→∃ b o,a=some ⟨b,o,none⟩∧∀ (p:Nat) c,(aM xs)[p]?=some c→Ψ b (o+p) c):VRel Ψ ρ (.slice xs) (.slice a len cap):=by
 refine .slice _ _ _ _ s hl hc fun i x hx=>⟨hs x (List.mem_of_getElem? hx),?_⟩
 obtain ⟨b,o,ha,ht⟩:=h (by intro e;subst e;simp at hx);refine ⟨b,o,ha,fun j c hj=>?_⟩;have hjs:j < s:=by rw[←hs x (List.mem_of_getElem? hx)];exact (List.getElem?_eq_some_iff.1 hj).1
 have:=ht (i * s+j) c (by rw[gU hs hx hjs];exact hj)
 rwa [Nat.add_assoc]
theorem WSat.row (hw:WSat Ψ w) {b o:Nat} {cs:List AVal} (h:∀ (p:Nat) c,cs[p]?=some c→Ψ b (o+p) c) :
  ∃ vs:List Value,vs.length=cs.length∧(∀ (p:Nat) v,vs[p]?=some v→w.cell? ⟨b,o+p,none⟩=some v)∧(∀ v∈vs,oneC v=true)∧∀ (p:Nat) c v,cs[p]?=some c→vs[p]?=some v→flat c=true∧VRel Ψ [] c v:=by
 have hex:∀ p,p < cs.length→∃ v,w.cell? ⟨b,o+p,none⟩=some v∧flat (cs.getD p .nilptr)=true∧VRel Ψ [] (cs.getD p .nilptr) v:=fun p hp=>by
  obtain ⟨h1,v,h2,h3⟩:=hw.sat _ _ _ (h p cs[p] (by simp [hp]));exact ⟨v,h2,by simpa [hp] using h1,by simpa [hp] using h3⟩
 refine ⟨(List.range cs.length).map fun p=>(w.cell? ⟨b,o+p,none⟩).getD undef,by simp,?_,?_,?_⟩
 ·intro p v hv
  have hp:p < cs.length:=by have:=(List.getElem?_eq_some_iff.1 hv).1;simpa using this
  obtain ⟨u,hu,_⟩:=hex p hp;rw[List.getElem?_map,List.getElem?_range hp] at hv;simp [hu] at hv ⊢;exact hv
 ·intro v hv
  simp only[List.mem_map,List.mem_range] at hv;obtain ⟨p,hp,rfl⟩:=hv;obtain ⟨u,hu,h1,h2⟩:=hex p hp;rw[hu];exact h2.one (jW h1)
 ·intro p c v hc hv
  have hp:p < cs.length:=(List.getElem?_eq_some_iff.1 hc).1;obtain ⟨u,hu,h1,h2⟩:=hex p hp;rw[List.getElem?_map,List.getElem?_range hp] at hv;simp [hu] at hv;subst hv
  have:cs.getD p .nilptr=c:=by simp [List.getD_eq_getElem?_getD,hc]
  rw[this] at h1 h2;exact ⟨h1,h2⟩
theorem yJ (n:Nat):∀ (rounds c:Nat),c≤2 * n+512→(c < n∨c≤2 * n+512)→Builtin.growBy n rounds c≤2 * n+512
 |0,c,h,_=>h
 |k+1,c,h,_=>by
  unfold Builtin.growBy;split
  ·exact h
  ·exact yJ n k _ (by omega) (.inr (by omega))
theorem nextslicecap_le {need c:Nat} (h:c < need):Builtin.nextslicecap need c≤2 * need+512:=by
 unfold Builtin.nextslicecap;split
 ·omega
 ·split
  ·omega
  ·exact yJ need 4 c (by omega) (.inl h)
theorem cT {b o size n cap:Nat} {vs:List Value} (hl:vs.length=n * size) (h:∀ (p:Nat) v,vs[p]?=some v→w.cell? ⟨b,o+p,none⟩=some v) :
  (Builtin.firstCells size n (.slice (some ⟨b,o,none⟩) n cap)).run P w=.ok ⟨vs⟩ w:=by
 have:=run_loadCells_list (P:=P) (w:=w) ⟨b,o,none⟩ vs (fun j v hj=>by rw[cD];exact h j v hj)
 simp [Builtin.firstCells,←hl,this]
theorem fX (zero:Array Value) (n:Nat):(Builtin.zeroCells zero n).size=n * zero.size:=by simp [Builtin.zeroCells]
theorem gw {E:Nat→Slot} {objs:List AObj} (h:Rel P ans B0 w Ψ ρ ow an E tmps objs) {sz:Nat} {xs ys:List AVal} {v x:Value} (ho:OwnRel w B0 Ψ ow (false,an.nt,1) sz xs v) (hy:VRel Ψ ρ (.slice ys) x)
  (hys:∀ y∈ys,y.cells.length=sz) {ts:Array TypeId} {ty t1 t2 e e2:TypeId} (h1:ts[0]?=some t1) (h2:ts[1]?=some t2) (hu1:P.underlying t1=some (.slice e)) (hu2:P.underlying t2=some (.slice e2)) (hsz:aZ P e=some sz) (hpos:0 < sz)
  {z:Value} (hz:(P.info? e).bind (·.zero)=some z) (hzs:z.cells.size=sz) (hby:aL P e≤16384) (hby0:0 < aL P e) (hroom:xs.length+ys.length≤room) :
  ∃ v' w' Ψ' ow',(Builtin.append_ ts ty #[v,x]).run P w=.ok v' w'∧Rel P ans B0 w' Ψ' ρ ow' an E tmps objs∧OwnRel w' B0 Ψ' ow' (false,an.nt,1) sz (xs++ys) v'∧Fr w Ψ ow w' Ψ' ow':=by
 obtain ⟨hx,hxs,base,sLen,sCap,rfl,hrest⟩:=ho;obtain ⟨hl,hlc,hrow⟩:=hx.rows hxs;cases hy with
 |slice _ xa n xcap s' hln hcn hxx =>
 have hyv:VRel Ψ ρ (.slice ys) (.slice xa n xcap):=.slice _ _ _ _ s' hln hcn hxx;obtain ⟨_,_,hyrow⟩:=hyv.rows hys;have hbytes:∀ i,P.info? e=some i→i.bytes=aL P e:=fun i hi=>by simp [aL,hi]
 obtain ⟨ti,hti⟩:∃ ti,P.info? e=some ti:=by
  cases hi:P.info? e with
  |none=>simp [hi] at hz
  |some ti=>exact ⟨ti,rfl⟩
 have hzz:ti.zero=some z:=by simpa [hti] using hz
 obtain ⟨yv,yl,yc,y1,yr⟩:∃ yv:List Value,yv.length=n * sz∧(Builtin.firstCells sz n (.slice xa n xcap)).run P w=.ok ⟨yv⟩ w∧(∀ u∈yv,oneC u=true)∧∀ (p:Nat) c u,(aM ys)[p]?=some c→yv[p]?=some u→flat c=true∧VRel Ψ [] c u:=by
  by_cases hne:ys=[]
  ·subst hne
   simp at hln;subst hln;refine ⟨[],by simp,?_,by simp,by simp⟩;cases xa with
   |none=>simp [Builtin.firstCells]
   |some a=>simp [Builtin.firstCells,loadCells,loadCellsFrom]
  ·obtain ⟨b,o,rfl,ht⟩:=hyrow hne
   obtain ⟨yv,l1,l2,l3,l4⟩:=h.wsat.row ht;have hyl:yv.length=n * sz:=by rw[l1,bO hys,hln]
   exact ⟨yv,hyl,cT hyl l2,l3,l4⟩
 have hxy:∀ u∈xs++ys,u.cells.length=sz:=fun u hu=>by
  rcases List.mem_append.1 hu with hu|hu
  ·exact hxs u hu
  ·exact hys u hu
 have hflen:(aM xs).length=sLen * sz:=by rw[bO hxs,hl]
 have hylen:(aM ys).length=n * sz:=by rw[bO hys,hln]
 by_cases hfit:sLen+n≤sCap
 ·
  by_cases hn0:n=0
  ·subst hn0
   have hys0:ys=[]:=by cases ys with|nil=>rfl|cons a b=>simp at hln
   subst hys0;have hyv0:yv=[]:=by cases yv with|nil=>rfl|cons a b=>simp at yl
   subst hyv0;refine ⟨.slice base sLen sCap,w,Ψ,ow,?_,h,⟨by simpa using hx,by simpa using hxs,base,sLen,sCap,rfl,hrest⟩,Fr.refl _ _ _⟩;cases base with
   |none=>simp [Builtin.append_,h1,h2,run_underlying hu1,run_underlying hu2,run_sizeOf hsz,Builtin.lenOf,yc,hlc]
   |some a=>simp [Builtin.append_,h1,h2,run_underlying hu1,run_underlying hu2,run_sizeOf hsz,Builtin.lenOf,yc,hlc,storeCells]
  ·have hlt:¬ sLen=sCap:=by omega
   rcases hrest with hrest|⟨b,o,cs,E',rfl,hob,hh,hB,hcap,hfree⟩
   ·exact absurd hrest hlt
   ·obtain ⟨cs⟩:=cs
    have hcap':o+sCap * sz≤cs.length:=by simpa using hcap
    have hmul:(sLen+n) * sz≤sCap * sz:=Nat.mul_le_mul_right _ hfit;have hmul2:(sLen+n) * sz=sLen * sz+n * sz:=Nat.add_mul _ _ _;have hblt:b < w.heap.size:=(Array.getElem?_eq_some_iff.1 hh).1;have hst:=bW (P:=P) (T:=E') yv (o+sLen * sz) 0 w cs hh y1 (by rw[yl];omega);rw[Nat.add_zero] at hst;generalize hw':w.putObj b (.cells ⟨overwrite cs (o+sLen * sz) yv⟩ E' (0,0))=w' at hst;have hheap:w'.heap[b]?=some (.cells ⟨overwrite cs (o+sLen * sz) yv⟩ E' (0,0)):=by rw[←hw'];exact World.putObj_heap_same hblt
    have hother:∀ b',b'≠b→w'.heap[b']?=w.heap[b']?:=fun b' hb'=>by rw[←hw'];exact World.putObj_heap_other hb'
    have hsize:w'.heap.size=w.heap.size:=by rw[←hw'];simp
    let Ψ':HT:=fun b' o'=>if b'=b∧o+sLen * sz≤o'∧o' < o+sLen * sz+n * sz then (fun c=>(aM ys)[o' - (o+sLen * sz)]?=some c) else Ψ b' o'
    have hle:Ψ.le Ψ':=fun b' o' c hc=>by
     have:¬ (b'=b∧o+sLen * sz≤o'∧o' < o+sLen * sz+n * sz):=fun ⟨e1,e2,_⟩=>by subst e1;rw[hfree o' e2] at hc;exact hc
     simp only[Ψ',if_neg this];exact hc
    have hΨo:∀ b',b'≠b→∀ o',Ψ' b' o'=Ψ b' o':=fun b' hb' o'=>by simp [Ψ',hb']
    have hsame:∀ kk i,¬ (kk=false∧i=an.nt)→Same w Ψ ow w' Ψ' ow kk i kk i:=fun kk i hk b' s hb'=>by
     have hne:b'≠b:=fun e=>by subst e;rw[hob] at hb';simp only[Option.some.injEq,Prod.mk.injEq] at hb';exact hk ⟨hb'.1.symm,hb'.2.1.symm⟩
     exact ⟨hb',hother b' hne,fun o' ho'=>by rw[hΨo b' hne];exact ho'⟩
    have hws:WSat Ψ' w':=⟨by rw[hsize];exact h.wsat.size8,fun b' o' c hc=>by
     by_cases hb':b'=b
     ·subst hb'
      by_cases hin:o+sLen * sz≤o'∧o' < o+sLen * sz+n * sz
      ·simp only[Ψ',hin,and_self,true_and,if_true] at hc
       have hp:o' - (o+sLen * sz) < yv.length:=by rw[yl];omega
       obtain ⟨f1,f2⟩:=yr _ c yv[o' - (o+sLen * sz)] hc (by simp [hp]);refine ⟨f1,yv[o' - (o+sLen * sz)],?_,f2.mono hle (aG _)⟩;rw[cell_of_heap hheap,aP _ _ _ _ (by rw[yl];omega),if_neg (by omega),if_pos (by rw[yl];omega)];simp [hp]
      ·have hc':Ψ b' o' c:=by
        have:¬ (b'=b'∧o+sLen * sz≤o'∧o' < o+sLen * sz+n * sz):=fun e=>hin e.2
        simpa only [Ψ',if_neg this] using hc
       have hlo:o' < o+sLen * sz:=by
        rcases Nat.lt_or_ge o' (o+sLen * sz) with h'|h'
        ·exact h'
        ·rw[hfree o' h'] at hc';exact (hc':False).elim
       obtain ⟨f1,u,f2,f3⟩:=h.wsat.sat b' o' c hc';refine ⟨f1,u,?_,f3.mono hle (aG _)⟩;rw[cell_of_heap hh] at f2;rw[cell_of_heap hheap,aP _ _ _ _ (by rw[yl];omega),if_pos hlo];exact f2
     ·rw[hΨo b' hb'] at hc
      obtain ⟨f1,u,f2,f3⟩:=h.wsat.sat b' o' c hc;exact ⟨f1,u,(cell_congr (hother b' hb') o').trans f2,f3.mono hle (aG _)⟩⟩
    refine ⟨.slice (some ⟨b,o,none⟩) (sLen+n) sCap,w',Ψ',ow,?_,?_,?_,?_⟩
    ·simp [Builtin.append_,h1,h2,run_underlying hu1,run_underlying hu2,run_sizeOf hsz,Builtin.lenOf,yc,hfit,cD,hst]
    ·refine ⟨h.size,hws,fun u=>?_,h.refs,h.boxes,h.objs.mono hle (fun i _=>hsame true i (by simp)),fun b' hb'=>by rw[hsize];exact h.lt b' hb',by rw[hsize];exact h.base,h.hi⟩
     rcases Nat.lt_or_ge u an.nt with hu|hu
     ·exact (h.slots u).mono hle (aG _) (hsame false u (by simp;omega)) (fun _ _ _=>rfl)
     ·rw[h.hi u hu];exact .dead _
    ·refine ⟨?_,hxy,_,_,_,rfl,.inr ⟨b,o,_,E',rfl,hob,hheap,hB,?_,?_⟩⟩
     ·refine .of_rows (s:=sz) (by simp [hl,hln]) hfit hxy fun _=>⟨b,o,rfl,fun p c hc=>?_⟩
      rw[eU,List.getElem?_append,hflen] at hc
      split at hc
      ·rename_i hp
       have hxne:xs≠[]:=by intro e;subst e;simp at hl;subst hl;simp at hp
       obtain ⟨b1,o1,e1,ht⟩:=hrow hxne;obtain ⟨rfl,rfl⟩:b=b1∧o=o1:=by simpa using e1
       exact hle _ _ _ (ht p c hc)
      ·rename_i hp
       have hp2:p - sLen * sz < n * sz:=by rw[←hylen];exact (List.getElem?_eq_some_iff.1 hc).1
       have:b=b∧o+sLen * sz≤o+p∧o+p < o+sLen * sz+n * sz:=⟨rfl,by omega,by omega⟩
       simp only[Ψ',if_pos this];rw[show o+p - (o+sLen * sz)=p - sLen * sz by omega];exact hc
     ·show o+sCap * sz≤(overwrite cs (o+sLen * sz) yv).length
      rw[aN _ _ _ (by rw[yl];omega)];exact hcap'
     ·intro o' ho'
      have:¬ (b=b∧o+sLen * sz≤o'∧o' < o+sLen * sz+n * sz):=fun e=>by have:=e.2.2;omega
      simp only[Ψ',if_neg this];exact hfree o' (by omega)
    ·exact ⟨hle,by rw[hsize];exact Nat.le_refl _,fun b' _ hb'=>by
      have hne:b'≠b:=fun e=>by subst e;rw[hob] at hb';cases hb'
      exact ⟨hother b' hne,hΨo b' hne⟩,fun _ hb'=>.inl hb',by rw[←hw'];rfl,by rw[←hw'];rfl,by rw[←hw'];rfl⟩
 ·
  obtain ⟨xv,xl,xc,xr⟩:∃ xv:List Value,xv.length=sLen * sz∧(∀ w1:World,w1.heap=w.heap→(Builtin.firstCells sz sLen (.slice base sLen sCap)).run P w1=.ok ⟨xv⟩ w1)∧∀ (p:Nat) c u,(aM xs)[p]?=some c→xv[p]?=some u→flat c=true∧VRel Ψ [] c u:=by
   by_cases hne:xs=[]
   ·subst hne
    simp at hl;subst hl;refine ⟨[],by simp,fun w1 _=>?_,by simp⟩;cases base with
    |none=>simp [Builtin.firstCells]
    |some a=>simp [Builtin.firstCells,loadCells,loadCellsFrom]
   ·obtain ⟨b,o,rfl,ht⟩:=hrow hne
    obtain ⟨xv,l1,l2,_,l4⟩:=h.wsat.row ht;have hxl:xv.length=sLen * sz:=by rw[l1,hflen]
    exact ⟨xv,hxl,fun w1 e=>cT hxl (fun p u hu=>(cell_congr (by rw[e]) _).trans (l2 p u hu)),l4⟩
  have yc':∀ w1:World,w1.heap=w.heap→(Builtin.firstCells sz n (.slice xa n xcap)).run P w1=.ok ⟨yv⟩ w1:=fun w1 e=>by
   by_cases hne:ys=[]
   ·subst hne
    simp at hln;subst hln
    have:yv=[]:=by cases yv with|nil=>rfl|cons a b=>simp at yl
    subst this;cases xa with
    |none=>simp [Builtin.firstCells]
    |some a=>simp [Builtin.firstCells,loadCells,loadCellsFrom]
   ·obtain ⟨b,o,rfl,ht⟩:=hyrow hne
    obtain ⟨yv',l1,l2,_,l4⟩:=h.wsat.row ht;have hyl:yv'.length=n * sz:=by rw[l1,hylen]
    have e1:=cT (P:=P) (cap:=xcap) hyl l2;rw[yc] at e1;obtain rfl:yv=yv':=by simpa using e1
    exact cT hyl (fun p u hu=>(cell_congr (by rw[e]) _).trans (l2 p u hu))
  have hgrow:=nextslicecap_le (need:=sLen+n) (c:=sCap) (by omega);have hroom':sLen+n≤4294967296:=by rw[←hl,←hln];exact hroom
  have hby':aL P e=ti.bytes:=(hbytes ti hti).symm
  have hnl:¬ Builtin.nextslicecap (sLen+n) sCap * ti.bytes > 2 ^ 48:=by
   have h1:Builtin.nextslicecap (sLen+n) sCap * ti.bytes≤(2 * (sLen+n)+512) * 16384:=Nat.mul_le_mul hgrow (by rw[←hby'];exact hby);omega
  have hnb:¬ ti.bytes=0:=by rw[←hby'];omega
  obtain ⟨newCap,hnc,hcut⟩:∃ newCap,sLen+n≤newCap∧(Question.appendCap (sLen+n) sCap e).cut (w.tape w.drawn (Question.appendCap (sLen+n) sCap e))=newCap :=
   ⟨_,by simp only[Question.cut];omega,rfl⟩
  obtain ⟨w1,hw1⟩:∃ w1,w1=w.drew:=⟨_,rfl⟩
  have hw1h:w1.heap=w.heap:=by rw[hw1];rfl
  have hw1o:w1.os=w.os:=by rw[hw1];rfl
  have hw1t:w1.tape=w.tape:=by rw[hw1];rfl
  have hw1u:w1.output=w.output:=by rw[hw1];rfl
  have hfo:(Question.appendCap (sLen+n) sCap e).forced=false:=rfl;have h':=h.heap hw1h
  let cells:List Value:=xv++yv++(Builtin.zeroCells z.cells (newCap - (sLen+n))).toList
  have hcl:cells.length=newCap * sz:=by
   have e1:newCap * sz=(sLen+n) * sz+(newCap - (sLen+n)) * sz:=by rw[←Nat.add_mul];congr 1;omega
   simp only[cells,List.length_append,xl,yl,Array.length_toList,fX,hzs];rw[e1,Nat.add_mul]
  have hrun:(Builtin.append_ ts ty #[.slice base sLen sCap,.slice xa n xcap]).run P w=.ok (.slice (some ⟨w1.heap.size,0,none⟩) (sLen+n) newCap) (w1.alloc (.cells ⟨cells⟩ e)):=by
   simp only[Builtin.append_,Sem.run_bind,h1,h2];simp [run_underlying hu1,run_underlying hu2,run_sizeOf hsz,Builtin.lenOf,hfit,run_typeInfo hti,hnb,hnl,hfo,hcut,←hw1,xc w1 hw1h,yc' w1 hw1h,aQ hz,newRow,cells];congr 2;apply Array.ext';simp
  let τ:Nat→Option AVal:=fun off=>(aM (xs++ys))[off]?
  have hτ:∀ off c,τ off=some c→flat c=true∧∃ u,(w1.alloc (.cells ⟨cells⟩ e)).cell? ⟨w1.heap.size,off,none⟩=some u∧VRel Ψ [] c u:=fun off c hc=>by
   have hcell:(w1.alloc (.cells ⟨cells⟩ e)).cell? ⟨w1.heap.size,off,none⟩=cells[off]?:=cell_of_heap (heap_alloc_new _) off;simp only[τ] at hc;rw[eU,List.getElem?_append,hflen] at hc
   split at hc
   ·rename_i hp
    have hx':off < xv.length:=by rw[xl];exact hp
    obtain ⟨f1,f2⟩:=xr off c xv[off] hc (by simp [hx']);refine ⟨f1,xv[off],?_,f2⟩;rw[hcell];simp only[cells,List.append_assoc];rw[List.getElem?_append_left hx'];simp [hx']
   ·rename_i hp
    have hp2:off - sLen * sz < yv.length:=by rw[yl,←hylen];exact (List.getElem?_eq_some_iff.1 hc).1
    obtain ⟨f1,f2⟩:=yr _ c yv[off - sLen * sz] hc (by simp [hp2]);refine ⟨f1,yv[off - sLen * sz],?_,f2⟩;rw[hcell];simp only[cells,List.append_assoc];rw[List.getElem?_append_right (by rw[xl];omega),xl,List.getElem?_append_left hp2];simp [hp2]
  have hR:=h'.alloc (o:=.cells ⟨cells⟩ e) (τ:=τ) (id:=some (false,an.nt,1)) hτ;refine ⟨_,_,_,_,hrun,hR,⟨?_,hxy,_,_,_,rfl,.inr ⟨w1.heap.size,0,⟨cells⟩,e,rfl,by simp [oset],heap_alloc_new _,h'.base,by simpa using Nat.le_of_eq hcl.symm,?_⟩⟩,?_⟩
  ·refine .of_rows (s:=sz) (by simp [hl,hln]) hnc hxy fun _=>⟨_,_,rfl,fun p c hc=>?_⟩
   simpa [dJ,τ] using hc
  ·intro o' ho'
   simp only[dJ,if_true,τ]
   have hnn:(aM (xs++ys))[o']?=none:=by
    rw[List.getElem?_eq_none_iff,bO hxy];simp [hl,hln] at ho' ⊢;omega
   rw[hnn];funext c;exact propext ⟨fun e=>(by cases e),fun e=>(e:False).elim⟩
  ·exact (Fr.heap hw1h hw1o hw1t hw1u).trans (Fr.alloc h'.wsat)
end Go.AM
end
section
namespace Go.AM
variable {P:Program} {ans:FuncId→Ann} {an:Ann} {w:World} {B0:Nat} {Ψ:HT} {ρ:List Nat} {ow:Own} {tmps:Array Value} {R:Type} {r:R}
variable {tm:List Slot} {rs:RS} {dst:Option Nat} {m:Machine} {mk mp:Value→World→Machine} {kp:AVal→RS→Option R} {k:Slot→RS→Option R} {ds:List Deferred}
theorem mY (h:Rel P ans B0 w Ψ ρ ow an (sl an tm rs) tmps rs.sto.objs):∀ {ps:List (Nat×Operand)} {k:List (Nat×AVal)→Option R},gF an.keep tm rs ps k=some r →
  ∃ l,k l=some r∧l.length=ps.length∧∀ (n:Nat) (p:Nat×AVal) (q:Nat×Operand),l[n]?=some p→ps[n]?=some q→p.1=q.1∧VRel Ψ ρ p.2 ((⟨tmps,ds⟩:Act).eval q.2)
 |[],k,e=>⟨[],by simpa [gF] using e,rfl,fun n p q hp=>by simp at hp⟩
 |(i,x)::ps,k,e=>by
  simp only[gF] at e;obtain ⟨t,hs,_⟩:=bH (ds:=ds) h x;obtain ⟨y,e1,hy⟩:=iG hs e;obtain ⟨l,e2,hl,hr⟩:=mY h e1;refine ⟨(i,y)::l,e2,by simp [hl],fun n p q hp hq=>?_⟩;cases n with
  |zero=>simp at hp hq;subst hp;subst hq;exact ⟨rfl,hy⟩
  |succ n=>simp at hp hq;exact hr n p q hp hq
theorem yH:∀ (l:List Value) (k off:Nat) (cells:Array Value),off+k+l.length≤cells.size →
  (l.zipIdx k).foldl (fun cs (p:Value×Nat)=>cs.setIfInBounds (off+p.2) p.1) cells=⟨overwrite cells.toList (off+k) l⟩
 |[],k,off,cells,_=>by simp [overwrite]
 |v::l,k,off,cells,h=>by
  simp only[List.length_cons] at h;rw[List.zipIdx_cons,List.foldl_cons,yH l (k+1) off (cells.setIfInBounds (off+k) v) (by simp;omega)];congr 1;have hlt:off+k < cells.toList.length:=by simp;omega
  unfold overwrite;rw[show off+(k+1)=off+k+1 by omega,Array.toList_setIfInBounds,List.take_succ_eq_append_getElem (by simpa using hlt)];simp only[List.getElem_set_self,List.length_cons];rw[List.take_set_of_le (Nat.le_refl _),List.drop_set_of_lt (by omega)];simp [show off+k+1+l.length=off+k+(l.length+1) by omega]
theorem iX (cells:Array Value) (off:Nat) (v:Value) (h:off+v.cells.size≤cells.size) :
  v.cells.zipIdx.foldl (fun cs (c,j)=>cs.setIfInBounds (off+j) c) cells=⟨overwrite cells.toList off v.cells.toList⟩:=by
 have:=yH v.cells.toList 0 off cells (by simpa using h)
 rw[←Array.foldl_toList,Array.toList_zipIdx];simpa using this
theorem ug {place:Nat→Option (Nat×Nat)} {i0:Nat}:∀ {l:List (Nat×AVal)} {lv:List (Nat×Value)} {cs cs':List Cell} {vs:List Value},rX place cs l=some cs'→l.length=lv.length →
  (∀ (n:Nat) p q,l[n]?=some p→lv[n]?=some q→p.1=q.1∧VRel Ψ ρ p.2 q.2)→CsRel w B0 Ψ ρ ow false i0 cs vs →
  ∃ vs',Instr.fill place ⟨vs⟩ lv=some ⟨vs'⟩∧CsRel w B0 Ψ ρ ow false i0 cs' vs'
 |[],[],cs,cs',vs,e,_,_,hc=>by simp [rX] at e;subst e;exact ⟨vs,rfl,hc⟩
 |[],_::_,_,_,_,_,hl,_,_=>by simp at hl
 |_::_,[],_,_,_,_,hl,_,_=>by simp at hl
 |(i,x)::l,(i',v)::lv,cs,cs',vs,e,hl,hr,hc=>by
  obtain ⟨hi,hx⟩:=hr 0 (i,x) (i',v) (by simp) (by simp);simp only at hi hx;subst hi;simp only[rX] at e;obtain ⟨⟨off,s⟩,hp,e⟩:=aC e;simp only at e;cases hcond:Nat.beq x.cells.length s&&Nat.ble (off+s) cs.length with
  |false=>simp [hcond] at e
  |true =>
   simp only[hcond,cond_true] at e;simp only[Bool.and_eq_true] at hcond;have h1:x.cells.length=s:=Nat.eq_of_beq_eq_true hcond.1;have h2:off+s≤cs.length:=Nat.le_of_ble_eq_true hcond.2;have hxv:=hx.csRel (w:=w) (B0:=B0) (ow:=ow) false i0;have hlen:v.cells.toList.length=s:=by rw[←h1];simpa using hxv.1.symm
   have hvl:vs.length=cs.length:=hc.1.symm
   have hnew:CsRel w B0 Ψ ρ ow false i0 (cs.take off++x.cells.map .val++cs.drop (off+x.cells.length)) (overwrite vs off v.cells.toList):=by
    have heq:cs.take off++x.cells.map .val++cs.drop (off+x.cells.length)=overwrite cs off (x.cells.map .val):=by simp [overwrite]
    rw[heq];refine ⟨by rw[aN _ _ _ (by simp;omega),aN _ _ _ (by rw[hlen];omega)];exact hc.1,fun j c u hcj huj=>?_⟩;rw[aP _ _ _ _ (by simp;omega)] at hcj;rw[aP _ _ _ _ (by rw[hlen];omega),hlen,←h1] at huj;simp only[List.length_map] at hcj;by_cases g1:j < off
    ·rw[if_pos g1] at hcj huj;exact hc.2 j c u hcj huj
    ·rw[if_neg g1] at hcj huj
     by_cases g2:j < off+x.cells.length
     ·rw[if_pos g2] at hcj huj
      have:=hxv.2 (j - off) c u hcj huj
      simp only[List.getElem?_map,Option.map_eq_some_iff] at hcj;obtain ⟨c',_,rfl⟩:=hcj;cases this with|val _ _ a b=>exact .val _ _ a b
     ·rw[if_neg g2] at hcj huj;exact hc.2 j c u hcj huj
   obtain ⟨vs',f1,f2⟩:=ug e (by simpa using hl) (fun n p q hp' hq'=>hr (n+1) p q (by simpa using hp') (by simpa using hq')) hnew;refine ⟨vs',?_,f2⟩;have hsz:v.cells.size=s:=by simpa using hlen
   simp only[Instr.fill,hp];rw[if_neg (by simp [hsz];omega),iX _ _ _ (by simp;omega)];exact f1
theorem aA5 (h:Rel P ans B0 w Ψ ρ ow an (sl an tm rs) tmps rs.sto.objs) {t:TypeId} {parts:Array (Nat×Operand)} {cs z:List Cell} {l:List (Nat×AVal)} (hz:zeroCells P t=some z) (hl:l.length=parts.toList.length)
  (hr:∀ (n:Nat) (p:Nat×AVal) (q:Nat×Operand),l[n]?=some p→parts.toList[n]?=some q→p.1=q.1∧VRel Ψ ρ p.2 ((⟨tmps,ds⟩:Act).eval q.2)) {place:Nat→Option (Nat×Nat)} (hf:rX place z l=some cs)
  (hb:∀ zv,(P.info? t).bind (·.zero)=some zv→P.built t (parts.map fun (i,x)=>(i,(⟨tmps,ds⟩:Act).eval x)).toList=Instr.fill place zv.cells (parts.map fun (i,x)=>(i,(⟨tmps,ds⟩:Act).eval x)).toList) :
  ∃ vs,(Instr.build t (parts.map fun (i,x)=>(i,(⟨tmps,ds⟩:Act).eval x))).run P w=.ok (.agg ⟨vs⟩) w∧CsRel w B0 Ψ ρ ow false an.nt cs vs:=by
 obtain ⟨zv,hzv,hzr⟩:=nO (w:=w) (B0:=B0) (Ψ:=Ψ) (ρ:=ρ) (ow:=ow) hz false an.nt
 obtain ⟨vs',f1,f2⟩:=ug (lv:=(parts.map fun (i,x)=>(i,(⟨tmps,ds⟩:Act).eval x)).toList) hf (by simpa using hl) (fun n p q hp hq=>by
  simp only[Array.toList_map,List.getElem?_map,Option.map_eq_some_iff] at hq;obtain ⟨q',hq',rfl⟩:=hq;exact hr n p q' hp hq') hzr
 refine ⟨vs',run_build w t _ ⟨vs'⟩ ?_,f2⟩;rw[hb zv hzv];exact f1
theorem lU {s:Nat}:∀ {l:List (Nat×AVal)} {lv:List (Nat×Value)} {xs xs':List AVal} {vs:List Value},bI s xs l=some xs'→l.length=lv.length →
  (∀ (n:Nat) p q,l[n]?=some p→lv[n]?=some q→p.1=q.1∧VRel Ψ ρ p.2 q.2)→(∀ x∈xs,x.cells.length=s∧clean x=true) →
  ((aM xs).length=vs.length∧∀ (p:Nat) c v,(aM xs)[p]?=some c→vs[p]?=some v→VRel Ψ [] c v) →
  ∃ vs',Instr.fill (fun i=>some (i * s,s)) ⟨vs⟩ lv=some ⟨vs'⟩∧xs'.length=xs.length∧(∀ x∈xs',x.cells.length=s∧clean x=true) ∧
   ((aM xs').length=vs'.length∧∀ (p:Nat) c v,(aM xs')[p]?=some c→vs'[p]?=some v→VRel Ψ [] c v)
 |[],[],xs,xs',vs,e,_,_,hx,hc=>by simp [bI] at e;subst e;exact ⟨vs,rfl,rfl,hx,hc⟩
 |[],_::_,_,_,_,_,hl,_,_,_=>by simp at hl
 |_::_,[],_,_,_,_,hl,_,_,_=>by simp at hl
 |(i,x)::l,(i',v)::lv,xs,xs',vs,e,hl,hr,hx,hc=>by
  obtain ⟨hi,hxv⟩:=hr 0 (i,x) (i',v) (by simp) (by simp);simp only at hi hxv;subst hi;simp only[bI] at e;cases hcond:Nat.beq x.cells.length s&&Nat.blt i xs.length&&clean x with
  |false=>simp [hcond] at e
  |true =>
   simp only[hcond,cond_true] at e;simp only[Bool.and_eq_true] at hcond;have h1:x.cells.length=s:=Nat.eq_of_beq_eq_true hcond.1.1;have h2:i < xs.length:=by have:=hcond.1.2;simpa [Nat.blt_eq] using this
   have hvc:v.cells.toList.length=s:=by rw[←h1];simpa using (hxv.cells).1.symm
   have hx1:∀ y∈xs,y.cells.length=s:=fun y hy=>(hx y hy).1
   have hx2:∀ y∈xs.set i x,y.cells.length=s∧clean y=true:=fun y hy=>by
    rcases List.mem_or_eq_of_mem_set hy with h'|h'
    ·exact hx y h'
    ·subst h';exact ⟨h1,hcond.2⟩
   have hx3:∀ y∈xs.set i x,y.cells.length=s:=fun y hy=>(hx2 y hy).1
   have hfl:(aM xs).length=xs.length * s:=bO hx1
   have hmul:i * s+s≤xs.length * s:=by
    have:=Nat.mul_le_mul_right s (show i+1≤xs.length by omega)
    rw[Nat.add_mul] at this;omega
   have hvl:i * s+s≤vs.length:=by rw[←hc.1,hfl];exact hmul
   have dJ:(aM (xs.set i x)).length=(overwrite vs (i * s) v.cells.toList).length∧∀ (p:Nat) c u,(aM (xs.set i x))[p]?=some c→(overwrite vs (i * s) v.cells.toList)[p]?=some u→VRel Ψ [] c u:=by
    refine ⟨by rw[bO hx3,aN _ _ _ (by rw[hvc];exact hvl),←hc.1,hfl];simp,fun p c u hpc hpu=>?_⟩;obtain ⟨a,j,y,rfl,hj,hya,hyc⟩:=gW hx3 hpc;rw[aP _ _ _ _ (by rw[hvc];exact hvl),hvc] at hpu;rw[List.getElem?_set] at hya;by_cases hia:i=a
    ·subst hia
     simp [h2] at hya;subst hya;rw[if_neg (by omega),if_pos (by omega),show i * s+j - i * s=j by omega] at hpu;exact ((hxv.clean (ρ':=[]) hcond.2).cells).2.2 j c u hyc (by simpa using hpu)
    ·rw[if_neg hia] at hya
     have hne:¬ (i * s≤a * s+j∧a * s+j < i * s+s):=by
      rintro ⟨g1,g2⟩
      rcases Nat.lt_or_gt_of_ne hia with h'|h'
      ·have:=Nat.mul_le_mul_right s (show i+1≤a by omega);rw[Nat.add_mul] at this;omega
      ·have:=Nat.mul_le_mul_right s (show a+1≤i by omega);rw[Nat.add_mul] at this;omega
     have hpu':vs[a * s+j]?=some u:=by
      by_cases g1:a * s+j < i * s
      ·rw[if_pos g1] at hpu;exact hpu
      ·rw[if_neg g1,if_neg (by omega)] at hpu;exact hpu
     exact hc.2 (a * s+j) c u (by rw[gU hx1 hya hj];exact hyc) hpu'
   obtain ⟨vs',f1,f2,f3,f4⟩:=lU e (by simpa using hl) (fun n p q hp' hq'=>hr (n+1) p q (by simpa using hp') (by simpa using hq')) hx2 dJ;refine ⟨vs',?_,by simpa using f2,f3,f4⟩;have hsz:v.cells.size=s:=by simpa using hvc
   simp only[Instr.fill];rw[if_neg (by simp [hsz];omega),iX _ _ _ (by simp [hsz];omega)];exact f1
theorem nA (n:Nat) (z:AVal):∀ (p:Nat) c,(aM (List.replicate n z))[p]?=some c→z.cells[p % z.cells.length]?=some c:=by
 intro p c h;obtain ⟨i,j,x,rfl,hj,hx,hc⟩:=gW (s:=z.cells.length) (fun x hx=>by rw[List.eq_of_mem_replicate hx]) h
 have:x=z:=List.eq_of_mem_replicate (List.mem_of_getElem? hx)
 subst this;rw[Nat.mul_comm,Nat.mul_add_mod,Nat.mod_eq_of_lt hj];exact hc
theorem xJ (h:Rel P ans B0 w Ψ ρ ow an (sl an tm rs) tmps rs.sto.objs) {t e:TypeId} {len s:Nat} {parts:Array (Nat×Operand)} {z:AVal} {xs:List AVal} {l:List (Nat×AVal)} (he:P.underlying t=some (.slice e)) (hs:aZ P e=some s) (hpos:0 < s) (hsmall:len * s≤16777216)
  (hz:zeroOf P e=some z) (hzs:z.cells.length=s) (hzc:clean z=true) (hl:l.length=parts.toList.length)
  (hr:∀ (n:Nat) (p:Nat×AVal) (q:Nat×Operand),l[n]?=some p→parts.toList[n]?=some q→p.1=q.1∧VRel Ψ ρ p.2 ((⟨tmps,ds⟩:Act).eval q.2)) (hf:bI s (List.replicate len z) l=some xs) :
  ∃ v w' Ψ',(Instr.buildSlice t len (parts.map fun (i,x)=>(i,(⟨tmps,ds⟩:Act).eval x))).run P w=.ok v w'∧Rel P ans B0 w' Ψ' ρ ow an (sl an tm rs) tmps rs.sto.objs∧SRel w' B0 Ψ' ρ ow tmps an.nt (.full xs) v∧Fr w Ψ ow w' Ψ' ow:=by
 simp only[zeroOf,Option.bind_eq_some_iff] at hz;obtain ⟨zv,⟨ti,hti,hzz⟩,hzv⟩:=hz;have hzrel:VRel Ψ [] z zv:=fA hzv;have hzsz:zv.cells.size=s:=by rw[←hzs];exact (hzrel.cells).1.symm
 have hzx:∀ x∈List.replicate len z,x.cells.length=s∧clean x=true:=fun x hx=>by rw[List.eq_of_mem_replicate hx];exact ⟨hzs,hzc⟩
 let init:List Value:=(List.range (len * s)).map fun p=>zv.cells[p % zv.cells.size]!
 have hinit:(aM (List.replicate len z)).length=init.length∧∀ (p:Nat) c v,(aM (List.replicate len z))[p]?=some c→init[p]?=some v→VRel Ψ [] c v:=by
  refine ⟨by rw[bO (fun x hx=>(hzx x hx).1)];simp [init],fun p c v hc hv=>?_⟩;have hp:p < len * s:=by have:=(List.getElem?_eq_some_iff.1 hv).1;simpa [init] using this
  simp only[init,List.getElem?_map,List.getElem?_range hp,Option.map_some,Option.some.injEq] at hv;have hc':=nA len z p c hc;rw[hzs] at hc';have hm:p % s < zv.cells.size:=by rw[hzsz];exact Nat.mod_lt _ hpos
  rw[hzsz] at hv;refine (hzrel.cells).2.2 (p % s) c v hc' ?_;rw[←hv];simp [hm]
 obtain ⟨vs',f1,f2,f3,f4⟩:=lU (lv:=(parts.map fun (i,x)=>(i,(⟨tmps,ds⟩:Act).eval x)).toList) (Ψ:=Ψ) (ρ:=ρ) hf (by simpa using hl) (fun n p q hp hq=>by
  simp only[Array.toList_map,List.getElem?_map,Option.map_eq_some_iff] at hq;obtain ⟨q',hq',rfl⟩:=hq;exact hr n p q' hp hq') hzx hinit
 have hxs:∀ x∈xs,x.cells.length=s:=fun x hx=>(f3 x hx).1
 have hrun:(Instr.buildSlice t len (parts.map fun (i,x)=>(i,(⟨tmps,ds⟩:Act).eval x))).run P w=.ok (.slice (some ⟨w.heap.size,0,none⟩) len len) (w.alloc (.cells ⟨vs'⟩ e)):=by
  have harr:(Array.range (len * s)).map (fun p=>zv.cells[p % zv.cells.size]!)=⟨init⟩:=by
   apply Array.ext';simp [init]
  by_cases h0:len * s=0
  ·have hlen0:len=0:=by rcases Nat.mul_eq_zero.1 h0 with h'|h'
                        ·exact h'
                        ·omega
   subst hlen0;have hinit0:init=[]:=by simp [init]
   rw[hinit0] at f1;have harr0:(#[]:Array Value)=⟨[]⟩:=rfl;simp only[Instr.buildSlice,Sem.run_bind,run_underlying he,Result.andThen_ok,run_sizeOf hs];simp;have f1':Instr.fill (fun i=>some (i * s,s)) #[] (parts.map fun (i,x)=>(i,(⟨tmps,ds⟩:Act).eval x)).toList=some ⟨vs'⟩:=f1;simp at f1';have hr0:Array.map (fun _:Nat=>(default:Value)) (Array.range 0)=#[]:=by apply Array.ext';simp
   simp [hr0,f1',newRow]
  ·have hle:¬ len * s > 2 ^ 24:=by omega
   simp only[Instr.buildSlice,Sem.run_bind,run_underlying he,Result.andThen_ok,run_sizeOf hs];have hz0:(P.info? e).bind (·.zero)=some zv:=by rw[hti];exact hzz
   rw[←harr] at f1;simp at f1;simp [h0,hle,aQ hz0,f1,newRow]
 have hτ:∀ off c,(fun off=>(aM xs)[off]?) off=some c→flat c=true∧∃ v,(w.alloc (.cells ⟨vs'⟩ e)).cell? ⟨w.heap.size,off,none⟩=some v∧VRel Ψ [] c v:=fun off c hc=>by
  obtain ⟨i,j,x,rfl,hj,hx,hxc⟩:=gW hxs hc;have hoff:i * s+j < vs'.length:=by rw[←f4.1];exact (List.getElem?_eq_some_iff.1 hc).1
  refine ⟨?_,vs'[i * s+j],?_,f4.2 _ c _ hc (by simp [hoff])⟩
  ·have:=(f3 x (List.mem_of_getElem? hx)).2
   exact List.all_eq_true.1 this c (List.mem_of_getElem? hxc)
  ·rw[cell_of_heap (heap_alloc_new _)];simp [hoff]
 have hR:=h.alloc (o:=.cells ⟨vs'⟩ e) (τ:=fun off=>(aM xs)[off]?) (id:=none) hτ;have hF:=Fr.alloc (ow:=ow) (o:=.cells ⟨vs'⟩ e) (τ:=fun off=>(aM xs)[off]?) (id:=none) h.wsat
 have hoo:oset ow w.heap.size none=ow:=by
  funext b;unfold oset;split
  ·subst_vars
   cases e1:ow w.heap.size with
   |none=>rfl
   |some y=>have:=h.lt w.heap.size (by simp [e1]);omega
  ·rfl
 rw[hoo] at hR hF;refine ⟨_,_,_,hrun,hR,.full xs _ len ?_,hF⟩;have hlen:xs.length=len:=by rw[f2];simp
 exact .of_rows (s:=s) hlen (Nat.le_refl _) hxs fun _=>⟨_,_,rfl,fun p c hc=>by simpa [dJ] using hc⟩
end Go.AM
end
section
namespace Go.AM
variable {P:Program} {ans:FuncId→Ann} {an:Ann} {w:World} {B0:Nat} {Ψ:HT} {ρ:List Nat} {ow:Own} {tmps:Array Value} {R:Type} {r:R}
variable {tm:List Slot} {rs:RS} {dst:Option Nat} {m:Machine} {mk mp:Value→World→Machine} {kp:AVal→RS→Option R} {k:Slot→RS→Option R} {ds:List Deferred}
def Slot.free:Slot→Bool
 |.box _=>false
 |.ref _ _=>false
 |.cells _=>false
 |.dead=>false
 |_=>true
def eE (P:Program) (ans:FuncId→Ann) (B0:Nat) (w:World) (Ψ:HT) (ρ:List Nat) (ow:Own) (sto:Sto) (c:Frame) (cs:List Frame) (m:Machine) (res:ARes) (sto':Sto):Prop :=
 ∃ w' Ψ' ρ' ow',Fr w Ψ ow w' Ψ' ow'∧pre ρ ρ'∧WSat Ψ' w'∧OsRel w' B0 Ψ' ρ' ow' ans sto'.objs∧(∀ b,ow' b≠none→b < w'.heap.size)∧StoLe sto sto' ∧
  match res with
  |.ret s=>s.free=true∧∃ v,SRel w' B0 Ψ' ρ' ow' #[] 0 s v∧Steps P m (lone (c.finish v) cs w')
  |.pan x=>∃ v,VRel Ψ' ρ' x v∧Steps P m (lone (c.raise [{ v,recovered:=false }]) cs w')
structure eA (ans:FuncId→Ann) (B0:Nat) (w:World) (Ψ:HT) (ρ:List Nat) (ow:Own) (args:List Slot) (vs:Array Value) (sto:Sto):Prop where
 wsat:WSat Ψ w
 base:B0≤w.heap.size
 lt:∀ b,ow b≠none→b < w.heap.size
 size:args.length=vs.size
 free:∀ s∈args,s.free=true
 args:∀ (i:Nat) s,args[i]?=some s→SRel w B0 Ψ ρ ow #[] i s (vs.getD i undef)
 objs:OsRel w B0 Ψ ρ ow ans sto.objs
 lo:sto.lo≤sto.objs.length
structure lS (P:Program) (ans:FuncId→Ann) (B0:Nat) (cf:aO):Prop where
 fn:∀ f args sto res sto',cf (.fn f) args sto=some (res,sto') →
  (∃ F,P.funcs[f]?=some F∧F.body.isSome=true∧F.name≠ "runtime.NumGoroutine")∧∀ w Ψ ρ ow vs,eA ans B0 w Ψ ρ ow args vs sto→∀ c cs,eE P ans B0 w Ψ ρ ow sto c cs (lone (Frame.enter P f vs .normal) (c::cs) w) res sto'
 yld:∀ i args sto res sto',cf (.yld i) args sto=some (res,sto') →
  ∃ al,sto.objs[i]?=some (.loop al)∧args.length=al.params.size∧∀ w Ψ ρ ow vs,eA ans B0 w Ψ ρ ow args vs sto→∀ l rr,ρ[i]?=some l→w.heap[l]?=some (.loop rr)→∀ c cs,
   eE P ans B0 w Ψ ρ ow sto c cs (lone (Frame.round l rr.fn ((rr.params.zip vs).foldl (fun t (p,a)=>t.setIfInBounds p a) rr.tmps) rr.assign rr.body .normal) (c::cs) w) res sto'
theorem SRel.free_tmps {tmps':Array Value} {t:Nat} {s:Slot} {v:Value} (h:SRel w B0 Ψ ρ ow tmps t s v) (hf:s.free=true):SRel w B0 Ψ ρ ow tmps' t s v :=
 h.mono Ψ.le_refl (aG _) (Same.refl _ _ _ _ _) (fun u o e=>by subst e;simp [Slot.free] at hf)
theorem oM:∀ {xs:List Operand} {rs:RS} {ow:Own} {own:List Nat} {i:Nat} {k:List Slot→RS→Option R},Rel P ans B0 w Ψ ρ ow an (sl an tm rs) tmps rs.sto.objs→gB an.keep tm rs own i xs k=some r →
  ∃ l rs' ow',k l rs'=some r∧Rel P ans B0 w Ψ ρ ow' an (sl an tm rs') tmps rs'.sto.objs∧rs'.sto=rs.sto∧l.length=xs.length∧(∀ s∈l,s.free=true) ∧
   (∀ (j:Nat) s x,l[j]?=some s→xs[j]?=some x→SRel w B0 Ψ ρ ow' #[] (an.nt+1+i+j) s ((⟨tmps,ds⟩:Act).eval x))∧Fr w Ψ ow w Ψ ow' ∧
   (∀ q,an.nt≤q→q < an.nt+1+i→Same w Ψ ow w Ψ ow' false q false q)
 |[],rs,ow,own,i,k,h,e=>⟨[],rs,ow,by simpa [gB] using e,h,rfl,rfl,by simp,fun j s x hs=>by simp at hs,Fr.refl _ _ _,fun q _ _=>Same.refl _ _ _ _ _⟩
 |x::xs,rs,ow,own,i,k,h,e=>by
  obtain ⟨t,hs,ht⟩:=bH (ds:=ds) h x
  have plain:∀ s0,s0.free=true→(∀ sz l,s0≠.own sz l)→SRel w B0 Ψ ρ ow tmps 0 s0 ((⟨tmps,ds⟩:Act).eval x)→gB an.keep tm rs own (i+1) xs (fun l rs'=>k (s0::l) rs')=some r →
    ∃ l rs' ow',k l rs'=some r∧Rel P ans B0 w Ψ ρ ow' an (sl an tm rs') tmps rs'.sto.objs∧rs'.sto=rs.sto∧l.length=(x::xs).length∧(∀ s∈l,s.free=true) ∧
     (∀ (j:Nat) s y,l[j]?=some s→(x::xs)[j]?=some y→SRel w B0 Ψ ρ ow' #[] (an.nt+1+i+j) s ((⟨tmps,ds⟩:Act).eval y))∧Fr w Ψ ow w Ψ ow' ∧
     (∀ q,an.nt≤q→q < an.nt+1+i→Same w Ψ ow w Ψ ow' false q false q):=fun s0 hf hno hs0 e'=>by
   obtain ⟨l,rs',ow',e1,h1,h2,h3,hfr,h4,h5,h6⟩:=oM h e';refine ⟨s0::l,rs',ow',e1,h1,h2,by simp [h3],fun s hs=>?_,fun j s y hj hy=>?_,h5,fun q hq1 hq2=>h6 q hq1 (by omega)⟩
   ·rcases List.mem_cons.1 hs with hs|hs
    ·subst hs;exact hf
    ·exact hfr s hs
   cases j with
   |zero =>
    simp at hj hy;subst hj;subst hy
    have:=(hs0.at (t':=an.nt+1+i) hno (fun cs e=>by subst e;simp [Slot.free] at hf) (fun cs e=>by subst e;simp [Slot.free] at hf)).free_tmps (tmps':=#[]) hf
    exact this.mono Ψ.le_refl (aG _) (h6 (an.nt+1+i) (by omega) (by omega)) (fun _ _ _=>rfl)
   |succ j =>
    simp at hj hy
    have:=h4 j s y hj hy
    rwa [show an.nt+1+(i+1)+j=an.nt+1+i+(j+1) by omega] at this
  have hnl:opS an.keep tm rs x=.nl→SRel w B0 Ψ ρ ow tmps 0 .nl ((⟨tmps,ds⟩:Act).eval x):=fun hop=>by
   rw[hop] at hs;generalize (⟨tmps,ds⟩:Act).eval x=v at hs;cases hs with|nl=>exact .nl
  simp only[gB] at e
  split at e
  ·rename_i sz l0 t' _ hop
   obtain rfl:=ht t' rfl;have hop':sl an tm rs t=.own sz l0:=hop;have hx:VRel Ψ ρ (.slice l0) (tmps.getD t undef):=by have:=h.slots t;rw[hop'] at this;cases this with|own _ _ _ hv=>exact hv.val
   have htn:t < an.nt:=h.lt_of (by rw[hop'];simp);obtain ⟨h1,h2⟩:=h.take t htn (.slice l0) hx (by rw[hop'];simp) (an.nt+1+i);rw[show upd (sl an tm rs) t (.val (.slice l0))=sl an tm (rs.put t (.val (.slice l0))) from (dG _ _ _ _ _).symm] at h1;obtain ⟨l,rs',ow',e1,g1,g2,g3,gfr,g4,g5,g6⟩:=oM h1 e;refine ⟨.own sz l0::l,rs',ow',e1,g1,g2,by simp [g3],fun s hs=>?_,fun j s y hj hy=>?_,(Fr.ren w Ψ ow).trans g5,fun q hq1 hq2=>?_⟩
   ·rcases List.mem_cons.1 hs with hs|hs
    ·subst hs;rfl
    ·exact gfr s hs
   ·cases j with
    |zero =>
     simp at hj hy;subst hj;subst hy;rw[hop'] at h2
     have:=(h2.free_tmps (tmps':=#[]) rfl)
     exact this.mono Ψ.le_refl (aG _) (g6 (an.nt+1+i) (by omega) (by omega)) (fun _ _ _=>rfl)
    |succ j =>
     simp at hj hy
     have:=g4 j s y hj hy
     rwa [show an.nt+1+(i+1)+j=an.nt+1+i+(j+1) by omega] at this
   ·have s1:=eS w Ψ ow (k1:=false) (i1:=t) (k2:=false) (i2:=an.nt+1+i) (off:=0) (k:=false) (i:=q) (by simp;omega)
    intro b s hb;obtain ⟨a1,_,_⟩:=s1 b s hb;exact g6 q hq1 (by omega) b s a1
  ·exact plain .nl rfl (by simp) (hnl (by assumption)) e
  ·obtain ⟨y,e1,hy⟩:=iG hs e
   exact plain (.val y) rfl (by simp) (.val _ _ hy) e1
def oP (nt:Nat) (ow:Own):Own:=fun b =>
 match ow b with
 |some (true,i,s)=>some (true,i,s)
 |some (false,t,s)=>if nt+1≤t then some (false,t - (nt+1),s) else none
 |none=>none
def eY (nt:Nat) (ow owr:Own):Own:=fun b =>
 match owr b with
 |some (true,i,s)=>some (true,i,s)
 |some (false,t,s)=>some (false,nt+t,s)
 |none=>match ow b with
  |some (false,t,s)=>if t < nt then some (false,t,s) else none
  |_=>none
theorem sr {nt:Nat} {b:Nat} (h:oP nt ow b≠none):ow b≠none:=by intro e;simp [oP,e] at h
theorem zG (h:Rel P ans B0 w Ψ ρ ow an (sl an tm rs) tmps rs.sto.objs) (sto:Sto) (hso:sto.objs=rs.sto.objs) (hlo:sto.lo≤sto.objs.length) {l:List Slot} {xs:List Operand} (hl:l.length=xs.length) (hfr:∀ s∈l,s.free=true)
  (ha:∀ (j:Nat) s x,l[j]?=some s→xs[j]?=some x→SRel w B0 Ψ ρ ow #[] (an.nt+1+0+j) s ((⟨tmps,ds⟩:Act).eval x)) {caps:List AVal} {cv:List Value} (hcl:caps.length=cv.length)
  (hc:∀ (i:Nat) c v,caps[i]?=some c→cv[i]?=some v→VRel Ψ ρ c v) :
  eA ans B0 w Ψ ρ (oP an.nt ow) (l++caps.map .val) ⟨xs.map (⟨tmps,ds⟩:Act).eval++cv⟩ sto where
 wsat:=h.wsat
 base:=h.base
 lt:=fun b hb=>h.lt b (sr hb)
 size:=by simp [hl,hcl]
 free:=fun s hs=>by
  rcases List.mem_append.1 hs with hs|hs
  ·exact hfr s hs
  ·obtain ⟨c,_,rfl⟩:=List.mem_map.1 hs;rfl
 args:=fun i s hs=>by
  have hsame:Same w Ψ ow w Ψ (oP an.nt ow) false (an.nt+1+0+i) false i:=fun b s hb=>by
   refine ⟨?_,rfl,fun _ h=>h⟩;simp only[oP,hb];rw[if_pos (by omega)];congr 3;omega
  rw[List.getElem?_append] at hs
  split at hs
  ·rename_i hi
   have hi':i < xs.length:=by rw[←hl];exact hi
   have hg:(⟨xs.map (⟨tmps,ds⟩:Act).eval++cv⟩:Array Value).getD i undef=(⟨tmps,ds⟩:Act).eval xs[i]:=by
    simp [Array.getD_eq_getD_getElem?,List.getElem?_append,hi']
   rw[hg];exact (ha i s xs[i] hs (by simp [hi'])).mono Ψ.le_refl (aG _) hsame (fun _ _ _=>rfl)
  ·rename_i hi
   rw[List.getElem?_map,Option.map_eq_some_iff] at hs;obtain ⟨c,hcc,rfl⟩:=hs;have hlt:i - l.length < cv.length:=by rw[←hcl];exact (List.getElem?_eq_some_iff.1 hcc).1
   have hg:(⟨xs.map (⟨tmps,ds⟩:Act).eval++cv⟩:Array Value).getD i undef=cv[i - l.length]:=by
    simp only[Array.getD_eq_getD_getElem?,List.getElem?_toArray];rw[List.getElem?_append_right (by simp;omega)];simp [←hl,hlt]
   rw[hg];exact .val _ _ (hc _ c _ hcc (by simp [hlt]))
 objs:=by
  rw[hso];exact h.objs.mono Ψ.le_refl fun i _ b s hb=>⟨by simp [oP,hb],rfl,fun _ h=>h⟩
 lo:=hlo
theorem wP (h:Rel P ans B0 w Ψ ρ ow an (sl an tm rs) tmps rs.sto.objs) {w':World} {Ψ':HT} {ρ':List Nat} {owr:Own} (hF:Fr w Ψ (oP an.nt ow) w' Ψ' owr) (hp:pre ρ ρ') (hw:WSat Ψ' w') {objs':List AObj} {ρ2:List Nat} (hp2:pre ρ ρ2)
  (ho:OsRel w' B0 Ψ' ρ2 owr ans objs') (hlt:∀ b,owr b≠none→b < w'.heap.size) :
  Rel P ans B0 w' Ψ' ρ2 (eY an.nt ow owr) an (sl an tm rs) tmps objs'∧Fr w Ψ ow w' Ψ' (eY an.nt ow owr):=by
 have hnone:∀ b,b < w.heap.size→oP an.nt ow b=none→owr b=none:=fun b hb hn=>by
  cases e:owr b with
  |none=>rfl
  |some x =>
   rcases hF.own b (by simp [e]) with h'|h'
   ·exact absurd hn h'
   ·omega
 have hcaller:∀ u,u < an.nt→Same w Ψ ow w' Ψ' (eY an.nt ow owr) false u false u:=fun u hu b s hb=>by
  have hb':=h.lt b (by simp [hb])
  have hin:oP an.nt ow b=none:=by
   simp only[oP,hb];rw[if_neg (by omega)]
  have hr:=hnone b hb' hin;obtain ⟨k1,k2⟩:=hF.keep b hb' hin;exact ⟨by simp [eY,hr,hb,hu],k1,fun o ho=>by rw[k2 o];exact ho⟩
 have hobj:∀ i,Same w' Ψ' owr w' Ψ' (eY an.nt ow owr) true i true i:=fun i b s hb=>⟨by simp [eY,hb],rfl,fun _ h=>h⟩
 refine ⟨⟨h.size,hw,fun u=>?_,h.refs,h.boxes,ho.mono Ψ'.le_refl (fun i _=>hobj i),fun b hb=>?_,Nat.le_trans h.base hF.size,h.hi⟩,⟨hF.le,hF.size,fun b hb hn=>hF.keep b hb (by simp [oP,hn]),fun b hb=>?_,hF.os,hF.tape,hF.output⟩⟩
 ·rcases Nat.lt_or_ge u an.nt with h2|h2
  ·exact (h.slots u).mono hF.le hp2 (hcaller u h2) (fun _ _ _=>rfl)
  ·rw[h.hi u h2];exact .dead _
 ·cases e:owr b with
  |some x=>exact hlt b (by simp [e])
  |none =>
   have:ow b≠none:=by
    intro e2;simp [eY,e,e2] at hb
   exact Nat.lt_of_lt_of_le (h.lt b this) hF.size
 ·cases e:owr b with
  |some x =>
   rcases hF.own b (by simp [e]) with h'|h'
   ·exact .inl (sr h')
   ·exact .inr h'
  |none =>
   left;intro e2;simp [eY,e,e2] at hb
end Go.AM
end
