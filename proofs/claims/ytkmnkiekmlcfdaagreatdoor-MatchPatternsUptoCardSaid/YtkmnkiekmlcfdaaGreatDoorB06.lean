/- Part B06 of the proof of one law of the program. -/
import Derived.Test.YtkmnkiekmlcfdaaGreatDoorB04
import Derived.Laws.CopyRow
import Derived.Laws.MakeOwn
import Derived.LoopTactic
set_option linter.all false
namespace Go.Proofs.YtkmnkiekmlcfdaaGreatDoor
open Go.AM Go.RowKit
set_option maxRecDepth 100000
theorem run_copy3 {P:Program} (w:World) (dT sT ty elem s:TypeId) (g o dLen dCap:Nat) (a:Addr) (sLen sCap:Nat) (cur:Array Value) (t:TypeId) (cs:List Value) (k:Nat)
  (hu:P.underlying dT=some (.slice elem)) (hs:(P.info? elem).map (·.size)=some s)
  (hg:w.heap[g]?=some (.cells cur t (0,0))) (hk:k=Nat.min sLen dLen) (hn:cs.length=k * s)
  (hsrc:∀ j v,cs[j]?=some v→w.cell? (a.add j)=some v) (hfit:o+cs.length≤cur.size) (h1:∀ v∈cs,v.oneCell'=true) :
  (Builtin.copy_ #[dT,sT] ty #[.slice (some ⟨g,o,none⟩) dLen dCap,.slice (some a) sLen sCap]).run P w =
   .ok (goInt k) (w.setRow g (cur.toList.take o++cs++cur.toList.drop (o+cs.length)).toArray):=by
 have hl:=run_loadCells_list (P:=P) w a cs hsrc;have hst:=run_storeCells_at P g o t cs 0 cur w hg (by simpa using hfit) h1;cases hq:P.info? elem with
 |none=>simp [hq] at hs
 |some i =>
  have hi:i.size=s:=by simpa [hq] using hs
  subst hk;simp [Builtin.copy_,run_underlying hu,Builtin.lenOf,Builtin.firstCells,sizeOf,typeInfo,hq,hi,←hn,hl,hst]
theorem info30:(Tryz.prog.info? 30).map (·.size)=some 3:=by kernel_rfl
abbrev zed:List Value:=[.int .i64 0,.string ⟨#[]⟩,.slice none 0 0]
def rowN (cs:List Value) (m n:Nat):List Value:=(List.replicate m cs).flatten++(List.replicate (n - m) zed).flatten
theorem flat_len (cs:List Value) (h:cs.length=3) (m:Nat):(List.replicate m cs).flatten.length=m * 3:=by
 induction m with
 |zero=>rfl
 |succ m ih=>simp only[List.replicate_succ,List.flatten_cons,List.length_append,ih,h];omega
theorem rowN_len {cs:List Value} (h:cs.length=3) {m n:Nat} (hm:m≤n):(rowN cs m n).length=n * 3:=by
 simp only[rowN,List.length_append,flat_len cs h,flat_len zed rfl];omega
theorem rowN_step {cs:List Value} (h:cs.length=3) {m k n:Nat} (hm:m+k≤n) (hk:k≤m) :
  (rowN cs m n).take (m * 3)++(rowN cs m n).take (k * 3)++(rowN cs m n).drop (m * 3+k * 3)=rowN cs (m+k) n:=by
 have e1:(rowN cs m n).take (m * 3)=(List.replicate m cs).flatten:=by
  rw[rowN,List.take_left' (flat_len cs h m)]
 have e2:(rowN cs m n).take (k * 3)=(List.replicate k cs).flatten:=by
  have:m=k+(m - k):=by omega
  rw[rowN,this,←List.replicate_append_replicate,List.flatten_append,List.append_assoc,List.take_left' (flat_len cs h k)]
 have e3:(rowN cs m n).drop (m * 3+k * 3)=(List.replicate (n - (m+k)) zed).flatten:=by
  rw[rowN,←List.drop_drop,List.drop_left' (flat_len cs h m)]
  have:n - m=k+(n - (m+k)):=by omega
  rw[this,←List.replicate_append_replicate,List.flatten_append,List.drop_left' (flat_len zed rfl k)]
 rw[e1,e2,e3,rowN,←List.replicate_append_replicate,List.flatten_append]
theorem made_row (n:Nat) (cs:List Value):madeCells #[.int .i64 0,.string ⟨#[]⟩,.slice none 0 0] (n * 3)=(rowN cs 0 n).toArray:=by
 have hl:(List.replicate n zed).flatten.length=n * 3:=flat_len zed rfl n;apply Array.ext
 ·simp [size_madeCells,rowN,hl]
 ·intro i h1 h2
  rw[size_madeCells] at h1;simp only[rowN,List.replicate_zero,List.flatten_nil,List.nil_append,Nat.sub_zero,List.getElem_toArray]
  have key:∀ (n i:Nat) (h:i < (List.replicate n zed).flatten.length),(List.replicate n zed).flatten[i]=(#[.int .i64 0,.string ⟨#[]⟩,.slice none 0 0]:Array Value)[i % 3]!:=by
   intro n;induction n with
   |zero=>intro i h;simp at h
   |succ n ih =>
    intro i h;simp only[List.replicate_succ,List.flatten_cons]
    match i,h with
    |0,h=>rfl
    |1,h=>rfl
    |2,h=>rfl
    |i+3,h =>
     rw[List.getElem_append_right (by simp)]
     have:(i+3) % 3=i % 3:=by omega
     rw[this];exact ih i (by simp at h ⊢;omega)
  rw[key n i (by omega)];simp [madeCells,h1]
theorem info30':(Tryz.prog.info? 30).map (fun i=>(i.zero,i.size,i.bytes))=some (some (.agg #[.int .i64 0,.string ⟨#[]⟩,.slice none 0 0]),3,48):=by kernel_rfl
theorem copy_row {cs:List Value} (hcs:cs.length=3) (h1:∀ v∈cs,v.oneCell'=true) {u:World} {g m n k:Nat} {t:TypeId} (hg:u.heap[g]?=some (.cells (rowN cs m n).toArray t (0,0))) (hm:m+k≤n) (hk:k≤m) (a:Addr) (sLen sCap dLen dCap:Nat) (hd:k=Nat.min sLen dLen)
  (src:∀ j v,((rowN cs m n).take (k * 3))[j]?=some v→u.cell? (a.add j)=some v) :
  (Builtin.copy_ #[26,26] 3 #[.slice (some ⟨g,m * 3,none⟩) dLen dCap,.slice (some a) sLen sCap]).run Tryz.prog u=.ok (goInt k) (u.setRow g (rowN cs (m+k) n).toArray):=by
 have hl:=rowN_len hcs (show m≤n by omega)
 have e:=run_copy3 (P:=Tryz.prog) u 26 26 3 30 3 g (m * 3) dLen dCap a sLen sCap (rowN cs m n).toArray t ((rowN cs m n).take (k * 3)) k Tryz.underlying26 info30 hg hd (by rw[List.length_take,hl];omega) src (by rw[List.length_take,List.size_toArray,hl];omega) (fun v hv0=>by
  have hv:=List.mem_of_mem_take hv0;clear hv0;simp only[rowN,List.mem_append,List.mem_flatten,List.mem_replicate] at hv;rcases hv with ⟨l,⟨_,rfl⟩,hv⟩|⟨l,⟨_,rfl⟩,hv⟩
  ·exact h1 v hv
  ·simp at hv;rcases hv with rfl|rfl|rfl <;> rfl)
 rw[e];congr 2;have hkl:((rowN cs m n).take (k * 3)).length=k * 3:=by rw[List.length_take,hl];omega
 rw[hkl,←rowN_step hcs hm hk]
theorem rowN_one {cs:List Value} (h:cs.length=3) {n:Nat} (hn:1≤n):cs++(rowN cs 0 n).drop 3=rowN cs 1 n:=by
 have:n=1+(n - 1):=by omega
 rw[rowN,List.replicate_zero,List.flatten_nil,List.nil_append,Nat.sub_zero,this,←List.replicate_append_replicate,List.flatten_append];rw[List.drop_left' (flat_len zed rfl 1)];simp [rowN]
theorem below_setRow {B:Nat} {a w:World} (h:Below B a w) {g:Nat} (hg:B≤g) (r:Array Value):Below B a (w.setRow g r) :=
 ⟨h.os,h.tape,h.output,by have:=h.size;simpa [World.setRow] using this,fun k hk=>by
  rw[←h.block k hk];simp only[World.setRow,Array.getElem?_modify];rw[if_neg (by omega)]⟩
theorem rep_walk (w:World) (b o cap:Nat) (cs:List Value) (hcs:cs.length=3) (h1:∀ v∈cs,v.oneCell'=true) (hsrc:∀ j v,cs[j]?=some v→w.cell? ⟨b,o+j,none⟩=some v) (hb:b < w.heap.size) (n:Nat) (hn:n≤16) (hn0:1≤n)
  (hmul:∀ u:World,Calls Tryz.prog 178 #[.int .u64 1,.int .u64 n] u fun e w'=>e=.returned (.tuple #[.int .u64 0,.int .u64 n])∧w'=u) :
  Calls Tryz.prog 174 #[.slice (some ⟨b,o,none⟩) 1 cap,.int .i64 n] w fun e w'=>e=.returned (.slice (some ⟨w.heap.size,0,none⟩) n n)∧w'.heap[w.heap.size]?=some (.cells (rowN cs n n).toArray 30 (0,0))∧Below w.heap.size w w':=by
 obtain ⟨i0,hi,hz0,hz1,hz2⟩:=info_parts info30'
 have hmk:(Instr.makeSlice 26 (.int .i64 n) (.int .i64 n)).run Tryz.prog w =
   .ok (.slice (some ⟨w.heap.size,0,none⟩) n n) (w.alloc (.cells (rowN cs 0 n).toArray 30)):=by
  have h:=run_make (P:=Tryz.prog) w 26 30 i0 _ Tryz.underlying26 hi hz0 .i64 .i64 (n:Int) (n:Int) (by omega) (Int.le_refl _) (by rw[hz2];omega) (by omega);rw[←made_row];simpa [hz1,Value.cells] using h
 have hg0:(w.alloc (.cells (rowN cs 0 n).toArray 30)).heap[w.heap.size]?=some (.cells (rowN cs 0 n).toArray 30 (0,0)):=heap_alloc_new _ _
 obtain ⟨W1,hc1,hg1,hb1⟩:∃ W1,(Builtin.copy_ #[26,26] 3 #[.slice (some ⟨w.heap.size,0,none⟩) n n,.slice (some ⟨b,o,none⟩) 1 cap]).run Tryz.prog (w.alloc (.cells (rowN cs 0 n).toArray 30))=.ok (goInt 1) W1 ∧
   W1.heap[w.heap.size]?=some (.cells (rowN cs 1 n).toArray 30 (0,0))∧Below w.heap.size w W1:=by
  have hl:=rowN_len hcs (Nat.zero_le n);have e:=run_copy3 (P:=Tryz.prog) (w.alloc (.cells (rowN cs 0 n).toArray 30)) 26 26 3 30 3 w.heap.size 0 n n ⟨b,o,none⟩ 1 cap (rowN cs 0 n).toArray 30 cs 1 Tryz.underlying26 info30 hg0 (by show 1=min 1 n;omega) (by rw[hcs]) (fun j v hj=>?_) (by rw[List.size_toArray,hl,hcs];omega) h1
  ·refine ⟨_,e,?_,?_⟩
   ·rw[setRow_heap _ _ _ _ _ _ hg0]
    congr 3;have h0:=rowN_one hcs hn0;simpa [hcs] using h0
   ·exact below_setRow (Below.alloc (Below.refl _ _) (Nat.le_refl _) _) (Nat.le_refl _) _
  ·rw[Go.WideShapes.add_plain]
   rw[cell_congr (heap_alloc_old _ _ hb)];exact hsrc j v hj
 go_enter Tryz.func174,Tryz.ntmps174
 go_wp2_with (first
  |(go_at_call 178;refine (hmul _).mono ?_;rintro e w' ⟨rfl,hw⟩;have hw:=hw.symm;subst hw))
 go_loopw [8] (fun i wr=>∃ m:Nat,1≤m∧m≤n∧i=.int .i64 m∧wr.heap[w.heap.size]?=some (.cells (rowN cs m n).toArray 30 (0,0))∧Below w.heap.size w wr) (fun i _=>n - (intOf i).toNat)
 case atStart=>exact ⟨1,Nat.le_refl _,hn0,rfl,hg1,hb1⟩
 case round =>
  obtain ⟨m,hm1,hm2,rfl,hrow,hbel⟩:=hrel;obtain ⟨k,hk⟩:∃ k,k=Nat.min m (n - m):=⟨_,rfl⟩
  have hkm:k≤m:=by rw[hk];exact Nat.min_le_left _ _
  have hkn:m+k≤n:=by have:k≤n - m:=by rw[hk];exact Nat.min_le_right _ _
                     omega
  have hcp:(Builtin.copy_ #[26,26] 3 #[.slice (some ⟨w.heap.size,m * 3,none⟩) (n - m) (n - m),.slice (some ⟨w.heap.size,0,none⟩) m n]).run Tryz.prog wr.drew=.ok (.int .i64 k) (wr.drew.setRow w.heap.size (rowN cs (m+k) n).toArray):=by
   refine copy_row hcs h1 (u:=wr.drew) (t:=30) hrow hkn hkm _ m n _ _ hk fun j v hj=>?_
   rw[Go.WideShapes.add_plain];have hr':wr.drew.heap[w.heap.size]?=some (.cells (rowN cs m n).toArray 30 (0,0)):=hrow;rw[Nat.zero_add,cell_of_heap hr'];rw[List.getElem?_take] at hj
   split at hj
   ·simpa using hj
   ·cases hj
  go_wp2
  ·go_region
   all_goals go_wp2
   have hlt:m < n:=by assumption
   have hkp:1≤m.min (n - m):=by show 1≤min m (n - m);omega
   refine ⟨⟨m+m.min (n - m),by omega,(by show m+min m (n - m)≤n;omega),by simp,?_,?_⟩,?_⟩
   ·exact setRow_heap _ _ _ _ _ _ (show wr.drew.heap[w.heap.size]?=_ from hrow)
   ·exact below_setRow hbel.drew (Nat.le_refl _) _
   ·simp only[intOf];omega
  ·have hge:¬ m < n:=by assumption
   have hmn:m=n:=by omega
   subst hmn
   go_ret
   exact ⟨rfl,hrow,hbel⟩
theorem rep_walk0 (w:World) (b o cap:Nat)
  (hmul:∀ u:World,Calls Tryz.prog 178 #[.int .u64 1,.int .u64 0] u fun e w'=>e=.returned (.tuple #[.int .u64 0,.int .u64 0])∧w'=u) :
  Calls Tryz.prog 174 #[.slice (some ⟨b,o,none⟩) 1 cap,.int .i64 0] w fun e w'=>e=.returned (.slice (some ⟨w.heap.size,0,none⟩) 0 0)∧Below w.heap.size w w':=by
 obtain ⟨i0,hi,hz0,hz1,hz2⟩:=info_parts info30'
 have hmk:(Instr.makeSlice 26 (.int .i64 0) (.int .i64 0)).run Tryz.prog w =
   .ok (.slice (some ⟨w.heap.size,0,none⟩) 0 0) (w.alloc (.cells #[] 30)):=by
  have h:=run_make (P:=Tryz.prog) w 26 30 i0 _ Tryz.underlying26 hi hz0 .i64 .i64 0 0 (by omega) (Int.le_refl _) (by rw[hz2];omega) (by omega);have e0:∀ z,madeCells z 0=#[]:=fun z=>Array.eq_empty_of_size_eq_zero (size_madeCells z 0)
  simpa [hz1,Value.cells,e0] using h
 have hg0:(w.alloc (.cells #[] 30)).heap[w.heap.size]?=some (.cells #[] 30 (0,0)):=heap_alloc_new _ _
 obtain ⟨W1,hc1,hb1⟩:∃ W1,(Builtin.copy_ #[26,26] 3 #[.slice (some ⟨w.heap.size,0,none⟩) 0 0,.slice (some ⟨b,o,none⟩) 1 cap]).run Tryz.prog (w.alloc (.cells #[] 30))=.ok (goInt 0) W1∧Below w.heap.size w W1:=by
  have e:=run_copy3 (P:=Tryz.prog) (w.alloc (.cells #[] 30)) 26 26 3 30 3 w.heap.size 0 0 0 ⟨b,o,none⟩ 1 cap #[] 30 [] 0 Tryz.underlying26 info30 hg0 rfl rfl (fun j v hj=>by simp at hj) (by simp) (by simp);exact ⟨_,e,below_setRow (Below.alloc (Below.refl _ _) (Nat.le_refl _) _) (Nat.le_refl _) _⟩
 go_enter Tryz.func174,Tryz.ntmps174
 go_wp2_with (first
  |(go_at_call 178;refine (hmul _).mono ?_;rintro e w' ⟨rfl,hw⟩;have hw:=hw.symm;subst hw))
 go_loopw [8] (fun i wr=>i=.int .i64 0∧Below w.heap.size w wr) (fun _ _=>0)
 case atStart=>exact ⟨rfl,hb1⟩
 case round =>
  obtain ⟨rfl,hbel⟩:=hrel
  go_wp2
  go_ret
  exact ⟨rfl,hbel⟩
theorem flatten_rel {Ψ:HT} {xs:List AVal} {vs:List Value} (hl:vs.length=xs.length) (h:∀ (p:Nat) c v,xs[p]?=some c→vs[p]?=some v→flat c=true∧VRel Ψ [] c v):∀ (n p:Nat) c,(List.replicate n xs).flatten[p]?=some c→∃ v,(List.replicate n vs).flatten[p]?=some v∧flat c=true∧VRel Ψ [] c v
 |0,p,c,e=>by simp at e
 |n+1,p,c,e=>by
  simp only[List.replicate_succ,List.flatten_cons] at e ⊢;rw[List.getElem?_append] at e ⊢;rw[hl]
  split at e
  ·rename_i hp
   rw[if_pos hp];have hv:p < vs.length:=by omega
   exact ⟨_,List.getElem?_eq_getElem hv,h p c _ e (List.getElem?_eq_getElem hv)⟩
  ·rename_i hp
   rw[if_neg hp];exact flatten_rel hl h n _ c e
theorem p174 (hmul:∀ (n:Nat) (u:World),n≤16→Calls Tryz.prog 178 #[.int .u64 1,.int .u64 n] u fun e w'=>e=.returned (.tuple #[.int .u64 0,.int .u64 n])∧w'=u) {x:AVal} (hx:x.cells.length=3) (n:Nat) (hn:n≤16):PureOK Tryz.prog 174 [.slice [x],.int .i64 (n:Nat)] (.slice (List.replicate n x)):=by
 refine ⟨⟨_,Tryz.func174,by kernel_rfl⟩,fun w Ψ vs hw hl ha c cs=>?_⟩;have h0:=ha 0 _ rfl;have h1:=ha 1 _ rfl
 have hvs:vs=#[vs.getD 0 undef,vs.getD 1 undef]:=by
  apply Array.ext
  ·simpa using hl.symm
  ·intro i h1 h2
   simp at h2
   match i,h2 with
   |0,_=>simp [Array.getD,h1]
   |1,_=>simp [Array.getD,h1]
 generalize vs.getD 0 undef=v at h0 hvs;generalize vs.getD 1 undef=v1 at h1 hvs;subst hvs;cases h1;cases h0 with
 |slice _ a len cap s g1 g2 g3 =>
  simp at g1;subst g1;obtain ⟨hs,b,o,rfl,hc⟩:=g3 0 x rfl;simp only[Nat.zero_mul,Nat.add_zero] at hc;obtain ⟨ws,l1,l2,l3,l4⟩:=hw.row hc
  have hone:∀ v∈ws,v.oneCell'=true:=fun v hv=>by
   have:=l3 v hv
   cases v <;> simp_all [oneC,Value.oneCell']
  have h03:0 < x.cells.length:=by omega
  have hb:b < w.heap.size:=hw.lt (hc 0 _ (List.getElem?_eq_getElem h03));by_cases hn0:n=0
  ·subst hn0
   have hcl:=(rep_walk0 w b o cap (fun u=>hmul 0 u (by omega))).mono (R':=fun e w'=>∃ v,e=.returned v∧(v=.slice (some ⟨w.heap.size,0,none⟩) 0 0∧Below w.heap.size w w')) fun e w' ⟨e1,e2⟩=>⟨_,e1,rfl,e2⟩
   obtain ⟨w',v,⟨rfl,hbel⟩,hst⟩:=steps_of_calls hcl c cs;exact ⟨w',Ψ,_,fr_below hbel,wsat_below hw hbel,.slice [] _ 0 0 0 rfl (Nat.le_refl _) (fun i x e=>by simp at e),hst⟩
  ·have hcl:=(rep_walk w b o cap ws (by rw[l1,hx]) hone l2 hb n hn (by omega) (fun u=>hmul n u hn)).mono (R':=fun e w'=>∃ v,e=.returned v∧(v=.slice (some ⟨w.heap.size,0,none⟩) n n∧w'.heap[w.heap.size]?=some (.cells (rowN ws n n).toArray 30 (0,0))∧Below w.heap.size w w')) fun e w' ⟨e1,e2⟩=>⟨_,e1,rfl,e2⟩
   obtain ⟨w',v,⟨rfl,hrow,hbel⟩,hst⟩:=steps_of_calls hcl c cs
   have hfc:flatCells (List.replicate n x)=(List.replicate n x.cells).flatten:=by
    simp [flatCells,List.flatMap_def]
   let τ:Nat→Option AVal:=fun p=>(flatCells (List.replicate n x))[p]?
   have hle:=hset_le hw τ
   have hws:WSat (hset Ψ w.heap.size τ) w':=⟨hw.glob.mono hle,(wsat_below hw hbel).len5,fun b' o' c' e=>by
    by_cases hbb:b'=w.heap.size
    ·subst hbb
     have e':(flatCells (List.replicate n x))[o']?=some c':=by simpa [hset,τ] using e
     rw[hfc] at e';obtain ⟨v,k1,k2,k3⟩:=flatten_rel l1 l4 n o' c' e';refine ⟨k2,v,?_,k3.mono hle (pre_refl _)⟩;rw[cell_of_heap hrow];simp only[rowN,Nat.sub_self,List.replicate_zero,List.flatten_nil,List.append_nil];simpa using k1
    ·have e':Ψ b' o' c':=by simpa [hset,hbb] using e
     obtain ⟨f1,u,f2,f3⟩:=hw.sat b' o' c' e';exact ⟨f1,u,(cell_congr (hbel.block b' (hw.lt e')) o').trans f2,f3.mono hle (pre_refl _)⟩⟩
   refine ⟨w',hset Ψ w.heap.size τ,_,⟨hle,hbel.size,fun b' h _=>⟨hbel.block b' h,fun o'=>by simp [hset,show ¬ b'=w.heap.size by omega]⟩,fun b' h=>absurd rfl h,hbel.os,hbel.tape,hbel.output⟩,hws,?_,hst⟩;exact VRel.of_rows (s:=3) (by simp) (Nat.le_refl _) (fun y hy=>by rw[List.eq_of_mem_replicate hy,hx]) fun _=>⟨_,_,rfl,fun p c' hc'=>by simpa [hset,τ] using hc'⟩
end Go.Proofs.YtkmnkiekmlcfdaaGreatDoor
