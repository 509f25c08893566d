import Derived.Test.YtdkkaldimefljaaGreatDoorA00
import Derived.Laws.World
import Derived.Laws.Cells
set_option linter.all false
section
namespace Go.AM
abbrev HC:=AVal→Prop
def hno:HC:=fun _=>False
abbrev HT:=Nat→Nat→HC
def HT.le (Ψ Ψ':HT):Prop:=∀ b o c,Ψ b o c→Ψ' b o c
theorem HT.le_refl (Ψ:HT):Ψ.le Ψ:=fun _ _ _ h=>h
theorem HT.le_trans {A B C:HT} (h:A.le B) (k:B.le C):A.le C:=fun b o c x=>k b o c (h b o c x)
def pre (ρ ρ':List Nat):Prop:=∀ i b:Nat,ρ[i]?=some b→ρ'[i]?=some b
theorem aG (ρ:List Nat):pre ρ ρ:=fun _ _ h=>h
theorem gN {a b c:List Nat} (h:pre a b) (k:pre b c):pre a c:=fun i x y=>k i x (h i x y)
theorem dP (ρ l:List Nat):pre ρ (ρ++l):=fun i b h=>by
 rw[List.getElem?_append_left (List.getElem?_eq_some_iff.1 h).1];exact h
theorem pre_nil (ρ:List Nat):pre [] ρ:=fun i b h=>by simp at h
theorem yC {ρ:List Nat} {m:Nat}:pre (ρ.take m) ρ:=fun i b hb=>by
 rw[List.getElem?_take] at hb
 split at hb
 ·exact hb
 ·simp at hb
def oneC:Value→Bool
 |.agg _=>false
 |.tuple _=>false
 |_=>true
def AVal.isCell:AVal→Bool
 |.agg _=>false
 |_=>true
inductive VRel (Ψ:HT) (ρ:List Nat):AVal→Value→Prop where
 |bool (b:Bool):VRel Ψ ρ (.bool b) (.bool b)
 |int (k:IntKind) (n:Int):VRel Ψ ρ (.int k n) (.int k n)
 |str (s:List UInt8):VRel Ψ ρ (.str s) (.string ⟨⟨s⟩⟩)
 |slice (xs:List AVal) (a:Option Addr) (len cap s:Nat) (hl:xs.length=len) (hc:len≤cap)
   (hx:∀ (i:Nat) (x:AVal),xs[i]?=some x→x.cells.length=s∧∃ b o:Nat,a=some ⟨b,o,none⟩∧∀ (j:Nat) (c:AVal),x.cells[j]?=some c→Ψ b (o+i * s+j) c):VRel Ψ ρ (.slice xs) (.slice a len cap)
 |agg (cs:List AVal) (vs:List Value) (hl:cs.length=vs.length) (hk:∀ (i:Nat) (c:AVal),cs[i]?=some c→c.isCell=true)
   (hx:∀ (i:Nat) (c:AVal) (v:Value),cs[i]?=some c→vs[i]?=some v→VRel Ψ ρ c v):VRel Ψ ρ (.agg cs) (.agg ⟨vs⟩)
 |nilptr:VRel Ψ ρ .nilptr (.pointer none)
 |nilfunc:VRel Ψ ρ .nilfunc .nilFunc
 |nilmap:VRel Ψ ρ .nilmap (.map none)
 |nilif:VRel Ψ ρ .nilif .nilIface
 |loc (i off b:Nat) (h:ρ[i]?=some b):VRel Ψ ρ (.loc i off) (.pointer (some ⟨b,off,none⟩))
 |amap (i b:Nat) (h:ρ[i]?=some b):VRel Ψ ρ (.amap i) (.map (some b))
 |yld (i b:Nat) (h:ρ[i]?=some b):VRel Ψ ρ (.yld i) (.func (.yield b) #[] #[])
 |cptr (x:AVal) (b o:Nat) (h:∀ (j:Nat) (c:AVal),x.cells[j]?=some c→Ψ b (o+j) c):VRel Ψ ρ (.cptr x) (.pointer (some ⟨b,o,none⟩))
 |func (f:FuncId) (cs:List AVal) (vs:List Value) (hl:cs.length=vs.length)
   (hx:∀ (i:Nat) (c:AVal) (v:Value),cs[i]?=some c→vs[i]?=some v→VRel Ψ ρ c v):VRel Ψ ρ (.func f cs) (.func (.func f) #[] ⟨vs⟩)
 |iface (t:TypeId) (x:AVal) (v:Value) (h:VRel Ψ ρ x v):VRel Ψ ρ (.iface t x) (.iface t v)
 |opq (v:Value) (h:v=.nilIface∨∃ t x,v=.iface t x):VRel Ψ ρ .opq v
theorem VRel.mono {Ψ Ψ':HT} (hΨ:Ψ.le Ψ') {ρ ρ':List Nat} (hp:pre ρ ρ') {x:AVal} {v:Value} (h:VRel Ψ ρ x v):VRel Ψ' ρ' x v:=by
 induction h with
 |bool=>exact .bool _
 |int=>exact .int _ _
 |str=>exact .str _
 |slice xs a len cap s hl hc hx =>
  exact .slice xs a len cap s hl hc fun i x e=>by
   obtain ⟨h1,b,o,h2,h3⟩:=hx i x e;exact ⟨h1,b,o,h2,fun j c hj=>hΨ _ _ _ (h3 j c hj)⟩
 |agg cs vs hl hk hx ih=>exact .agg cs vs hl hk fun i c v h1 h2=>ih i c v h1 h2
 |nilptr=>exact .nilptr
 |nilfunc=>exact .nilfunc
 |nilmap=>exact .nilmap
 |nilif=>exact .nilif
 |loc i off b h=>exact .loc i off b (hp i b h)
 |amap i b h=>exact .amap i b (hp i b h)
 |yld i b h=>exact .yld i b (hp i b h)
 |cptr x b o h=>exact .cptr x b o fun j c hj=>hΨ _ _ _ (h j c hj)
 |func f cs vs hl hx ih=>exact .func f cs vs hl fun i c v h1 h2=>ih i c v h1 h2
 |iface t x v h ih=>exact .iface t x v ih
 |opq v h=>exact .opq v h
theorem VRel.flat {Ψ:HT} {ρ ρ':List Nat} {x:AVal} {v:Value} (h:VRel Ψ ρ x v) (hf:AM.flat x=true):VRel Ψ ρ' x v:=by
 cases h with
 |bool=>exact .bool _
 |int=>exact .int _ _
 |str=>exact .str _
 |slice xs a len cap s hl hc hx=>exact .slice xs a _ cap s hl hc hx
 |nilptr=>exact .nilptr
 |nilfunc=>exact .nilfunc
 |nilmap=>exact .nilmap
 |nilif=>exact .nilif
 |cptr x b o h=>exact .cptr x b o h
 |agg=>simp [AM.flat] at hf
 |loc=>simp [AM.flat] at hf
 |amap=>simp [AM.flat] at hf
 |yld=>simp [AM.flat] at hf
 |func=>simp [AM.flat] at hf
 |iface=>simp [AM.flat] at hf
 |opq v h=>exact .opq v h
theorem jW {x:AVal} (h:flat x=true):x.isCell=true:=by cases x <;> simp_all [flat,AVal.isCell]
theorem fK {x:AVal} (h:x.isCell=true):x.cells=[x]:=by cases x <;> simp_all [AVal.cells,AVal.isCell]
theorem VRel.one {Ψ:HT} {ρ:List Nat} {x:AVal} {v:Value} (h:VRel Ψ ρ x v) (hc:x.isCell=true):oneC v=true:=by
 cases h with
 |opq v h=>rcases h with rfl|⟨t,x,rfl⟩ <;> rfl
 |_=>simp_all [oneC,AVal.isCell]
theorem VRel.cells {Ψ:HT} {ρ:List Nat} {x:AVal} {v:Value} (h:VRel Ψ ρ x v) :
  x.cells.length=v.cells.size∧(∀ (i:Nat) (c:AVal),x.cells[i]?=some c→c.isCell=true)∧∀ (i:Nat) (c:AVal) (u:Value),x.cells[i]?=some c→v.cells[i]?=some u→VRel Ψ ρ c u:=by
 by_cases hx:x.isCell=true
 ·have h1:=h.one hx
  rw[fK hx];have hv:v.cells=#[v]:=by cases v <;> simp_all [Value.cells,oneC]
  rw[hv];refine ⟨rfl,?_,?_⟩
  ·intro i c hi
   cases i with
   |zero=>simp at hi;subst hi;exact hx
   |succ n=>simp at hi
  ·intro i c u hi hu
   cases i with
   |zero=>simp at hi hu;subst hi;subst hu;exact h
   |succ n=>simp at hi
 ·cases h with
  |agg cs vs hl hk hx'=>exact ⟨by simpa [AVal.cells,Value.cells] using hl,hk,fun i c u h1 h2=>hx' i c u h1 (by simpa [Value.cells] using h2)⟩
  |_=>simp_all [AVal.isCell]
theorem VRel.clean {Ψ:HT} {ρ ρ':List Nat} {x:AVal} {v:Value} (h:VRel Ψ ρ x v) (hf:AM.clean x=true):VRel Ψ ρ' x v:=by
 by_cases hx:x.isCell=true
 ·refine h.flat ?_
  simpa [AM.clean,fK hx] using hf
 ·cases h with
  |agg cs vs hl hk hx' =>
   refine .agg cs vs hl hk fun i c v h1 h2=>(hx' i c v h1 h2).flat ?_
   have:=List.all_eq_true.1 (show cs.all AM.flat=true from hf) c (List.mem_of_getElem? h1)
   exact this
  |_=>simp_all [AVal.isCell]
theorem VRel.lokF {Ψ:HT} {ρ:List Nat} {n:Nat} {x:AVal} {v:Value} (h:VRel Ψ ρ x v) (hf:AM.lokF n x=true):VRel Ψ (ρ.take n) x v:=by
 cases h with
 |bool=>exact .bool _
 |int=>exact .int _ _
 |str=>exact .str _
 |slice xs a len cap s hl hc hx=>exact .slice xs a _ cap s hl hc hx
 |nilptr=>exact .nilptr
 |nilfunc=>exact .nilfunc
 |nilmap=>exact .nilmap
 |nilif=>exact .nilif
 |cptr x b o h=>exact .cptr x b o h
 |agg=>simp [AM.lokF] at hf
 |loc i off b h=>exact .loc i off b (by rw[List.getElem?_take,if_pos (by simpa [AM.lokF,Nat.blt_eq] using hf)];exact h)
 |amap i b h=>exact .amap i b (by rw[List.getElem?_take,if_pos (by simpa [AM.lokF,Nat.blt_eq] using hf)];exact h)
 |yld i b h=>exact .yld i b (by rw[List.getElem?_take,if_pos (by simpa [AM.lokF,Nat.blt_eq] using hf)];exact h)
 |func=>simp [AM.lokF] at hf
 |iface t x v h=>exact .iface t x v (h.clean hf)
 |opq v h=>exact .opq v h
theorem VRel.lok {Ψ:HT} {ρ:List Nat} {n:Nat} {x:AVal} {v:Value} (h:VRel Ψ ρ x v) (hf:AM.lok n x=true):VRel Ψ (ρ.take n) x v:=by
 cases h with
 |agg cs vs hl hk hx'=>exact .agg cs vs hl hk fun i c v h1 h2=>(hx' i c v h1 h2).lokF (List.all_eq_true.1 (show cs.all (AM.lokF n)=true from hf) c (List.mem_of_getElem? h1))
 |func f cs vs hl hx'=>exact .func f cs vs hl fun i c v h1 h2=>(hx' i c v h1 h2).lokF (List.all_eq_true.1 (show cs.all (AM.lokF n)=true from hf) c (List.mem_of_getElem? h1))
 |bool=>exact .bool _
 |int=>exact .int _ _
 |str=>exact .str _
 |slice xs a len cap s hl hc hx=>exact .slice xs a _ cap s hl hc hx
 |nilptr=>exact .nilptr
 |nilfunc=>exact .nilfunc
 |nilmap=>exact .nilmap
 |nilif=>exact .nilif
 |cptr x b o h=>exact .cptr x b o h
 |loc i off b h=>exact VRel.lokF (.loc i off b h) hf
 |amap i b h=>exact VRel.lokF (.amap i b h) hf
 |yld i b h=>exact VRel.lokF (.yld i b h) hf
 |iface t x v h=>exact VRel.lokF (.iface t x v h) hf
 |opq v h=>exact .opq v h
structure WSat (Ψ:HT) (w:World):Prop where
 size8:8≤w.heap.size
 sat:∀ b o c,Ψ b o c→flat c=true∧∃ v,w.cell? ⟨b,o,none⟩=some v∧VRel Ψ [] c v
abbrev Oid:=Bool×Nat×Nat
abbrev Own:=Nat→Option Oid
structure OwnRel (w:World) (B0:Nat) (Ψ:HT) (ow:Own) (id:Oid) (sz:Nat) (xs:List AVal) (v:Value):Prop where
 rel:VRel Ψ [] (.slice xs) v
 elems:∀ x∈xs,x.cells.length=sz
 rest:∃ a len cap,v=.slice a len cap∧(len=cap∨∃ b o cs E,a=some ⟨b,o,none⟩∧ow b=some id∧w.heap[b]?=some (.cells cs E (0,0))∧B0≤b∧o+cap * sz≤cs.size∧∀ o',o+len * sz≤o'→Ψ b o'=hno)
inductive CRel (w:World) (B0:Nat) (Ψ:HT) (ρ:List Nat) (ow:Own) (id:Oid):Cell→Value→Prop where
 |val (c:AVal) (v:Value) (hc:c.isCell=true) (h:VRel Ψ ρ c v):CRel w B0 Ψ ρ ow id (.val c) v
 |own (sz:Nat) (xs:List AVal) (v:Value) (h:OwnRel w B0 Ψ ow id sz xs v):CRel w B0 Ψ ρ ow id (.own sz xs) v
def CsRel (w:World) (B0:Nat) (Ψ:HT) (ρ:List Nat) (ow:Own) (k:Bool) (i:Nat) (cs:List Cell) (vs:List Value):Prop :=
 cs.length=vs.length∧∀ (j:Nat) (c:Cell) (v:Value),cs[j]?=some c→vs[j]?=some v→CRel w B0 Ψ ρ ow (k,i,j+1) c v
structure BoxRel (w:World) (B0:Nat) (Ψ:HT) (ρ:List Nat) (ow:Own) (k:Bool) (i:Nat) (cs:List Cell) (b:Nat):Prop where
 own:ow b=some (k,i,0)
 base:B0≤b
 free:∀ o,Ψ b o=hno
 heap:∃ vs T,w.heap[b]?=some (.cells ⟨vs⟩ T (0,0))∧CsRel w B0 Ψ ρ ow k i cs vs
inductive SRel (w:World) (B0:Nat) (Ψ:HT) (ρ:List Nat) (ow:Own) (tmps:Array Value) (t:Nat):Slot→Value→Prop where
 |dead (v:Value):SRel w B0 Ψ ρ ow tmps t .dead v
 |val (x:AVal) (v:Value) (h:VRel Ψ ρ x v):SRel w B0 Ψ ρ ow tmps t (.val x) v
 |tup (xs:List AVal) (vs:List Value) (hl:xs.length=vs.length) (h:∀ (i:Nat) (x:AVal) (v:Value),xs[i]?=some x→vs[i]?=some v→VRel Ψ ρ x v):SRel w B0 Ψ ρ ow tmps t (.tup xs) (.tuple ⟨vs⟩)
 |own (sz:Nat) (xs:List AVal) (v:Value) (h:OwnRel w B0 Ψ ow (false,t,1) sz xs v):SRel w B0 Ψ ρ ow tmps t (.own sz xs) v
 |full (xs:List AVal) (a:Option Addr) (n:Nat) (h:VRel Ψ [] (.slice xs) (.slice a n n)):SRel w B0 Ψ ρ ow tmps t (.full xs) (.slice a n n)
 |nl:SRel w B0 Ψ ρ ow tmps t .nl (.slice none 0 0)
 |nn (xs:List AVal) (a:Addr) (n c:Nat) (h:VRel Ψ [] (.slice xs) (.slice (some a) n c)):SRel w B0 Ψ ρ ow tmps t (.nn xs) (.slice (some a) n c)
 |cells (cs:List Cell) (vs:List Value) (h:CsRel w B0 Ψ ρ ow false t cs vs):SRel w B0 Ψ ρ ow tmps t (.cells cs) (.agg ⟨vs⟩)
 |box (cs:List Cell) (b:Nat) (h:BoxRel w B0 Ψ ρ ow false t cs b):SRel w B0 Ψ ρ ow tmps t (.box cs) (.pointer (some ⟨b,0,none⟩))
 |ref (u o b:Nat) (h:tmps.getD u undef=.pointer (some ⟨b,0,none⟩)):SRel w B0 Ψ ρ ow tmps t (.ref u o) (.pointer (some ⟨b,o,none⟩))
def mapRel (Ψ:HT) (es:List (AVal×AVal)) (ents:List MapEntry):Prop :=
 es.length=ents.length∧∀ (i:Nat) (p:AVal×AVal) (e:MapEntry),es[i]?=some p→ents[i]?=some e→isKey p.1=true∧VRel Ψ [] p.1 e.key∧VRel Ψ [] p.2 e.val
structure LoopRel (w:World) (Ψ:HT) (ρ:List Nat) (ans:FuncId→Ann) (l:iP) (r:Loop):Prop where
 state:r.state=l.state
 pend:r.pending=l.pend
 fn:r.fn=l.fn
 params:r.params=l.params
 assign:r.assign=l.assign
 body:r.body=l.body
 size:r.tmps.size=(ans l.fn).nt
 slots:∀ t,SRel w 0 Ψ ρ (fun _=>none) r.tmps t (tlook (ans l.fn).keep l.tm t) (r.tmps.getD t undef)
 snap:∀ s∈l.tm,dM s=s
 hi:∀ t,(ans l.fn).nt≤t→tlook (ans l.fn).keep l.tm t=.dead
inductive ORel (w:World) (B0:Nat) (Ψ:HT) (ρ:List Nat) (ow:Own) (ans:FuncId→Ann) (i:Nat):AObj→Nat→Prop where
 |box (cs:List Cell) (b:Nat) (h:BoxRel w B0 Ψ (ρ.take (i+1)) ow true i cs b):ORel w B0 Ψ ρ ow ans i (.box cs) b
 |map (es:List (AVal×AVal)) (b:Nat) (ents:Array MapEntry) (clock:Nat) (hb:w.heap[b]?=some (.map ents clock)) (ho:ow b=some (true,i,0)) (h0:B0≤b) (hf:∀ o,Ψ b o=hno)
   (h:mapRel Ψ es ents.toList):ORel w B0 Ψ ρ ow ans i (.map es) b
 |loop (l:iP) (b:Nat) (r:Loop) (hb:w.heap[b]?=some (.loop r)) (ho:ow b=some (true,i,0)) (h0:B0≤b) (hf:∀ o,Ψ b o=hno)
   (h:LoopRel w Ψ (ρ.take (i+1)) ans l r):ORel w B0 Ψ ρ ow ans i (.loop l) b
def OsRel (w:World) (B0:Nat) (Ψ:HT) (ρ:List Nat) (ow:Own) (ans:FuncId→Ann) (objs:List AObj):Prop :=
 ρ.length=objs.length∧∀ (i:Nat) (o:AObj),objs[i]?=some o→∃ b:Nat,ρ[i]?=some b∧ORel w B0 Ψ ρ ow ans i o b
structure Fr (w:World) (Ψ:HT) (ow:Own) (w':World) (Ψ':HT) (ow':Own):Prop where
 le:Ψ.le Ψ'
 size:w.heap.size≤w'.heap.size
 keep:∀ b,b < w.heap.size→ow b=none→w'.heap[b]?=w.heap[b]?∧∀ o,Ψ' b o=Ψ b o
 own:∀ b,ow' b≠none→ow b≠none∨w.heap.size≤b
 os:w'.os=w.os
 tape:w'.tape=w.tape
 output:w'.output=w.output
theorem Fr.refl (w:World) (Ψ:HT) (ow:Own):Fr w Ψ ow w Ψ ow:=⟨Ψ.le_refl,Nat.le_refl _,fun _ _ _=>⟨rfl,fun _=>rfl⟩,fun _ h=>.inl h,rfl,rfl,rfl⟩
theorem Fr.trans {w w1 w2:World} {Ψ Ψ1 Ψ2:HT} {ow ow1 ow2:Own} (h:Fr w Ψ ow w1 Ψ1 ow1) (k:Fr w1 Ψ1 ow1 w2 Ψ2 ow2):Fr w Ψ ow w2 Ψ2 ow2 where
 le:=HT.le_trans h.le k.le
 size:=Nat.le_trans h.size k.size
 keep:=fun b hb ho=>by
  have h1:=h.keep b hb ho
  have ho1:ow1 b=none:=by
   cases e:ow1 b with
   |none=>rfl
   |some x=>rcases h.own b (by simp [e]) with h'|h'
            ·exact absurd ho h'
            ·omega
  have h2:=k.keep b (Nat.lt_of_lt_of_le hb h.size) ho1;exact ⟨h2.1.trans h1.1,fun o=>(h2.2 o).trans (h1.2 o)⟩
 own:=fun b hb=>by
  rcases k.own b hb with h'|h'
  ·exact h.own b h'
  ·exact .inr (Nat.le_trans h.size h')
 os:=k.os.trans h.os
 tape:=k.tape.trans h.tape
 output:=k.output.trans h.output
end Go.AM
end
section
namespace Go.AM
variable {w w':World} {B0:Nat} {Ψ Ψ':HT} {ρ ρ':List Nat} {ow ow':Own}
theorem OwnRel.mono {id id':Oid} {sz:Nat} {xs:List AVal} {v:Value} (h:OwnRel w B0 Ψ ow id sz xs v) (hΨ:Ψ.le Ψ')
  (hs:∀ b,ow b=some id→ow' b=some id'∧w'.heap[b]?=w.heap[b]?∧∀ o,Ψ b o=hno→Ψ' b o=hno):OwnRel w' B0 Ψ' ow' id' sz xs v:=by
 obtain ⟨h1,h2,a,len,cap,h3,h4⟩:=h;refine ⟨h1.mono hΨ (aG _),h2,a,len,cap,h3,?_⟩;rcases h4 with h4|⟨b,o,cs,E,e1,e2,e3,e4,e5,e6⟩
 ·exact .inl h4
 ·obtain ⟨k1,k2,k3⟩:=hs b e2
  exact .inr ⟨b,o,cs,E,e1,k1,k2.trans e3,e4,e5,fun o' ho=>k3 o' (e6 o' ho)⟩
theorem CRel.mono {id id':Oid} {c:Cell} {v:Value} (h:CRel w B0 Ψ ρ ow id c v) (hΨ:Ψ.le Ψ') (hp:pre ρ ρ')
  (hs:∀ b,ow b=some id→ow' b=some id'∧w'.heap[b]?=w.heap[b]?∧∀ o,Ψ b o=hno→Ψ' b o=hno):CRel w' B0 Ψ' ρ' ow' id' c v:=by
 cases h with
 |val c v hc h=>exact .val c v hc (h.mono hΨ hp)
 |own sz xs v h=>exact .own sz xs v (h.mono hΨ hs)
def Same (w:World) (Ψ:HT) (ow:Own) (w':World) (Ψ':HT) (ow':Own) (k:Bool) (i:Nat) (k':Bool) (i':Nat):Prop :=
 ∀ b s,ow b=some (k,i,s)→ow' b=some (k',i',s)∧w'.heap[b]?=w.heap[b]?∧∀ o,Ψ b o=hno→Ψ' b o=hno
theorem Same.refl (w:World) (Ψ:HT) (ow:Own) (k:Bool) (i:Nat):Same w Ψ ow w Ψ ow k i k i:=fun _ _ h=>⟨h,rfl,fun _ h=>h⟩
theorem CsRel.mono {k k':Bool} {i i':Nat} {cs:List Cell} {vs:List Value} (h:CsRel w B0 Ψ ρ ow k i cs vs) (hΨ:Ψ.le Ψ') (hp:pre ρ ρ') (hs:Same w Ψ ow w' Ψ' ow' k i k' i') :
  CsRel w' B0 Ψ' ρ' ow' k' i' cs vs :=
 ⟨h.1,fun j c v hc hv=>(h.2 j c v hc hv).mono hΨ hp fun b hb=>hs b _ hb⟩
theorem BoxRel.mono {k k':Bool} {i i':Nat} {cs:List Cell} {b:Nat} (h:BoxRel w B0 Ψ ρ ow k i cs b) (hΨ:Ψ.le Ψ') (hp:pre ρ ρ') (hs:Same w Ψ ow w' Ψ' ow' k i k' i') :
  BoxRel w' B0 Ψ' ρ' ow' k' i' cs b:=by
 obtain ⟨h1,h2,h3,vs,T,h4,h5⟩:=h;obtain ⟨k1,k2,k3⟩:=hs b 0 h1;exact ⟨k1,h2,fun o=>k3 o (h3 o),vs,T,k2.trans h4,h5.mono hΨ hp hs⟩
theorem SRel.mono {tmps tmps':Array Value} {t t':Nat} {s:Slot} {v:Value} (h:SRel w B0 Ψ ρ ow tmps t s v) (hΨ:Ψ.le Ψ') (hp:pre ρ ρ') (hs:Same w Ψ ow w' Ψ' ow' false t false t')
  (hr:∀ u o,s=.ref u o→tmps'.getD u undef=tmps.getD u undef):SRel w' B0 Ψ' ρ' ow' tmps' t' s v:=by
 cases h with
 |dead=>exact .dead _
 |val x v h=>exact .val x v (h.mono hΨ hp)
 |tup xs vs hl h=>exact .tup xs vs hl fun i x v h1 h2=>(h i x v h1 h2).mono hΨ hp
 |own sz xs v h=>exact .own sz xs v (h.mono hΨ fun b hb=>hs b _ hb)
 |full xs a n h=>exact .full xs a n (h.mono hΨ (aG _))
 |nl=>exact .nl
 |nn xs a n c h=>exact .nn xs a n c (h.mono hΨ (aG _))
 |cells cs vs h=>exact .cells cs vs (h.mono hΨ hp hs)
 |box cs b h=>exact .box cs b (h.mono hΨ hp hs)
 |ref u o b h=>exact .ref u o b ((hr u o rfl).trans h)
theorem ORel.mono {ans:FuncId→Ann} {i:Nat} {o:AObj} {b:Nat} (h:ORel w B0 Ψ ρ ow ans i o b) (hΨ:Ψ.le Ψ') (hp:pre (ρ.take (i+1)) (ρ'.take (i+1))) (hs:Same w Ψ ow w' Ψ' ow' true i true i) :
  ORel w' B0 Ψ' ρ' ow' ans i o b:=by
 cases h with
 |box cs b h=>exact .box cs b (h.mono hΨ hp hs)
 |map es b ents clock hb ho h0 hf h =>
  obtain ⟨k1,k2,k3⟩:=hs b 0 ho;exact .map es b ents clock (k2.trans hb) k1 h0 (fun o=>k3 o (hf o)) ⟨h.1,fun i p e h1 h2=>⟨(h.2 i p e h1 h2).1,(h.2 i p e h1 h2).2.1.mono hΨ (aG _),(h.2 i p e h1 h2).2.2.mono hΨ (aG _)⟩⟩
 |loop l b r hb ho h0 hf h =>
  obtain ⟨k1,k2,k3⟩:=hs b 0 ho;refine .loop l b r (k2.trans hb) k1 h0 (fun o=>k3 o (hf o)) ?_;exact ⟨h.state,h.pend,h.fn,h.params,h.assign,h.body,h.size,fun t=>(h.slots t).mono hΨ hp (fun b s hb=>by cases hb) (fun _ _ _=>rfl),h.snap,h.hi⟩
theorem OsRel.mono {ans:FuncId→Ann} {objs:List AObj} (h:OsRel w B0 Ψ ρ ow ans objs) (hΨ:Ψ.le Ψ') (hs:∀ i,i < objs.length→Same w Ψ ow w' Ψ' ow' true i true i):OsRel w' B0 Ψ' ρ ow' ans objs :=
 ⟨h.1,fun i o ho=>by
  obtain ⟨b,hb,hr⟩:=h.2 i o ho;exact ⟨b,hb,hr.mono hΨ (aG _) (hs i (List.getElem?_eq_some_iff.1 ho).1)⟩⟩
structure Rel (P:Program) (ans:FuncId→Ann) (B0:Nat) (w:World) (Ψ:HT) (ρ:List Nat) (ow:Own) (an:Ann) (E:Nat→Slot) (tmps:Array Value) (objs:List AObj):Prop where
 size:tmps.size=an.nt
 wsat:WSat Ψ w
 slots:∀ t,SRel w B0 Ψ ρ ow tmps t (E t) (tmps.getD t undef)
 refs:∀ d u o,E d=.ref u o→∃ cs,E u=.box cs
 boxes:∀ t cs,E t=.box cs→an.loc.contains t=true
 objs:OsRel w B0 Ψ ρ ow ans objs
 lt:∀ b,ow b≠none→b < w.heap.size
 base:B0≤w.heap.size
 hi:∀ t,an.nt≤t→E t=.dead
def upd (E:Nat→Slot) (d:Nat) (s:Slot):Nat→Slot:=fun t=>if t=d then s else E t
@[simp] theorem dU (E:Nat→Slot) (d:Nat) (s:Slot):upd E d s d=s:=by simp [upd]
theorem bG (E:Nat→Slot) {d t:Nat} (s:Slot) (h:t≠d):upd E d s t=E t:=by simp [upd,h]
theorem cE (tmps:Array Value) (d t:Nat) (v:Value) (hd:d < tmps.size):(tmps.setIfInBounds d v).getD t undef=if t=d then v else tmps.getD t undef:=by
 by_cases h:t=d
 ·subst h;simp [Array.getD_eq_getD_getElem?,hd]
 ·simp [Array.getD_eq_getD_getElem?,h,Ne.symm h,Array.getElem?_setIfInBounds_ne (Ne.symm h)]
theorem Rel.write {P:Program} {ans:FuncId→Ann} {an:Ann} {E:Nat→Slot} {tmps:Array Value} {objs objs':List AObj} (h:Rel P ans B0 w Ψ ρ ow an E tmps objs)
  (d:Nat) (s:Slot) (v:Value) (hd:d < an.nt) (hnr:∀ t o,E t=.ref d o→t=d∨∃ cs,E d=.box cs∧∃ cs',s=.box cs'∧v=tmps.getD d undef)
  (hsr:∀ u o,s=.ref u o→u≠d∧∃ cs,E u=.box cs) (hsb:∀ cs,s=.box cs→an.loc.contains d=true)
  (hΨ:Ψ.le Ψ') (hp:pre ρ ρ') (hw:WSat Ψ' w')
  (hslots:∀ t,t≠d→t < an.nt→Same w Ψ ow w' Ψ' ow' false t false t)
  (hv:SRel w' B0 Ψ' ρ' ow' (tmps.setIfInBounds d v) d s v)
  (hobjs:OsRel w' B0 Ψ' ρ' ow' ans objs') (hlt:∀ b,ow' b≠none→b < w'.heap.size) (hsz:w.heap.size≤w'.heap.size) :
  Rel P ans B0 w' Ψ' ρ' ow' an (upd E d s) (tmps.setIfInBounds d v) objs' where
 size:=by simpa using h.size
 wsat:=hw
 slots:=fun t=>by
  rw[cE _ _ _ _ (by rw[h.size];exact hd)];by_cases ht:t=d
  ·subst ht;simpa using hv
  ·rw[bG _ _ ht,if_neg ht]
   rcases Nat.lt_or_ge t an.nt with hlt'|hge
   case inr=>rw[h.hi t hge];exact .dead _
   refine (h.slots t).mono hΨ hp (hslots t ht hlt') fun u o e=>?_
   rw[cE _ _ _ _ (by rw[h.size];exact hd)];by_cases hu:u=d
   ·subst hu
    rcases hnr t o e with h1|⟨cs,h1,cs',h2,h3⟩
    ·exact absurd h1 ht
    ·simp [h3]
   ·simp [hu]
 refs:=fun x u o e=>by
  by_cases hx:x=d
  ·subst hx
   rw[dU] at e;obtain ⟨h1,cs,h2⟩:=hsr u o e;exact ⟨cs,by rw[bG _ _ h1];exact h2⟩
  ·rw[bG _ _ hx] at e
   by_cases hu:u=d
   ·subst hu
    rcases hnr x o e with h1|⟨cs,h1,cs',h2,h3⟩
    ·exact absurd h1 hx
    ·exact ⟨cs',by rw[dU];exact h2⟩
   ·rw[bG _ _ hu];exact h.refs x u o e
 boxes:=fun t cs e=>by
  by_cases ht:t=d
  ·subst ht;rw[dU] at e;exact hsb cs e
  ·rw[bG _ _ ht] at e;exact h.boxes t cs e
 objs:=hobjs
 lt:=hlt
 base:=Nat.le_trans h.base hsz
 hi:=fun t ht=>by rw[bG _ _ (by omega)];exact h.hi t ht
end Go.AM
end
section
namespace Go.AM
variable {P:Program} {w:World}
section steps
variable {b:Frame} {a:Act} {k:List Item} {cs:List Frame} {ops:Array Oper} {i:Nat} {rest:List Nat} {o:Oper} {w':World}
theorem cY {v:Value} (ho:ops[i]?=some o) (hw:Region.wanted o (yielded ops a.tmps)=true) (hd:∀ c,o.op≠.defer c) (hr:(execOp a.eval o).run P w=.ok (.value v) w') :
  step P (lone (b.atR a (.inRegion ops (i::rest)::k)) cs w)=.next (lone (b.atR (a.put o.dst v) (.inRegion ops rest::k)) cs w'):=by
 refine step_lone_go ?_;have h:=Frame.finish_atR b a ops i rest k v;rw[ho] at h;rw[stepGR_op ho hw,Oper.semAt_eq _ _ _ hd];simp [stepG.apply,hr,h]
theorem eW (ho:ops[i]?=some o) (hw:Region.wanted o (yielded ops a.tmps)=true) (hd:∀ c,o.op≠.defer c) (hr:(execOp a.eval o).run P w=.ok .skip w') :
  step P (lone (b.atR a (.inRegion ops (i::rest)::k)) cs w)=.next (lone (b.atR (a.put o.dst undef) (.inRegion ops rest::k)) cs w'):=by
 refine step_lone_go ?_;have h:=Frame.finish_atR b a ops i rest k undef;rw[ho] at h;rw[stepGR_op ho hw,Oper.semAt_eq _ _ _ hd];simp [stepG.apply,hr,h]
theorem jL {f:FuncId} {args:Array Value} (ho:ops[i]?=some o) (hw:Region.wanted o (yielded ops a.tmps)=true) (hd:∀ c,o.op≠.defer c) (hr:(execOp a.eval o).run P w=.ok (.enter f args) w') :
  step P (lone (b.atR a (.inRegion ops (i::rest)::k)) cs w)=.next (lone (Frame.enter P f args .normal) (b.atR a (.inRegion ops (i::rest)::k)::cs) w'):=by
 refine step_lone_go ?_;rw[stepGR_op ho hw,Oper.semAt_eq _ _ _ hd];simp [stepG.apply,hr,Frame.atR]
theorem k9 {l:Nat} {f:FuncId} {tmps:Array Value} {x y:Code} (ho:ops[i]?=some o) (hw:Region.wanted o (yielded ops a.tmps)=true) (hd:∀ c,o.op≠.defer c) (hr:(execOp a.eval o).run P w=.ok (.round l f tmps x y) w') :
  step P (lone (b.atR a (.inRegion ops (i::rest)::k)) cs w)=.next (lone (Frame.round l f tmps x y .normal) (b.atR a (.inRegion ops (i::rest)::k)::cs) w'):=by
 refine step_lone_go ?_;rw[stepGR_op ho hw,Oper.semAt_eq _ _ _ hd];simp [stepG.apply,hr,Frame.atR]
theorem px {v:Value} (ho:ops[i]?=some o) (hw:Region.wanted o (yielded ops a.tmps)=true) (hd:∀ c,o.op≠.defer c) (hr:(execOp a.eval o).run P w=.halt (.panic v) w') :
  step P (lone (b.atR a (.inRegion ops (i::rest)::k)) cs w)=.next (lone { b.atR a (.inRegion ops (i::rest)::k) with mode:=.panicking [{ v,recovered:=false }] } cs w'):=by
 refine step_lone_go ?_;rw[stepGR_op ho hw,Oper.semAt_eq _ _ _ hd,←Frame.raise_atR];simp [stepG.apply,hr]
end steps
theorem run_underlying {t:TypeId} {d:TypeDesc} (h:P.underlying t=some d):(underlying t).run P w=.ok d w:=by simp [underlying,h]
theorem run_typeInfo {t:TypeId} {i:TypeInfo} (h:P.info? t=some i):(typeInfo t).run P w=.ok i w:=by simp [typeInfo,h]
theorem run_sizeOf {t:TypeId} {s:Nat} (h:aZ P t=some s):(sizeOf t).run P w=.ok s w:=by
 unfold aZ at h;cases hi:P.info? t with
 |none=>simp [hi] at h
 |some i=>simp [hi] at h;simp [sizeOf,run_typeInfo hi,h]
theorem cR {t:TypeId} {b:Bool} (h:bC P t=some b):(isAgg t).run P w=.ok b w:=by
 unfold bC at h;cases hu:P.underlying t with
 |none=>simp [hu] at h
 |some d =>
  simp only[isAgg,Sem.run_bind,run_underlying hu,Result.andThen_ok];cases d <;> simp_all
theorem aQ {t:TypeId} {v:Value} (h:(P.info? t).bind (·.zero)=some v):(zeroValue t).run P w=.ok v w:=by
 cases hi:P.info? t with
 |none=>simp [hi] at h
 |some i=>simp [hi] at h;simp [zeroValue,run_typeInfo hi,h]
theorem cD (b o j:Nat):(Addr.add ⟨b,o,none⟩ j)=⟨b,o+j,none⟩:=by
 unfold Addr.add;split
 ·subst_vars;rfl
 ·rfl
theorem cell_of_heap {b:Nat} {vs:List Value} {T:TypeId} {fz:Nat×Nat} (h:w.heap[b]?=some (.cells ⟨vs⟩ T fz)) (o:Nat):w.cell? ⟨b,o,none⟩=vs[o]?:=by
 simp [World.cell?,h]
theorem run_loadVar_agg {t:TypeId} {b o:Nat} {vs:List Value} (h1:bC P t=some true) (h2:aZ P t=some vs.length) (h:∀ (j:Nat) v,vs[j]?=some v→w.cell? ⟨b,o+j,none⟩=some v) :
  (loadVar t ⟨b,o,none⟩).run P w=.ok (.agg ⟨vs⟩) w:=by
 have:=run_loadCells_list (P:=P) (w:=w) ⟨b,o,none⟩ vs (fun j v hj=>by rw[cD];exact h j v hj)
 simp [loadVar,cR h1,run_sizeOf h2,this]
theorem run_loadVar_one {t:TypeId} {a:Addr} {v:Value} (h1:bC P t=some false) (h:w.cell? a=some v):(loadVar t a).run P w=.ok v w:=by
 simp [loadVar,cR h1,h]
theorem ns {b o:Nat} {vs:List Value} {T:TypeId} {fz:Nat×Nat} (h:w.heap[b]?=some (.cells ⟨vs⟩ T fz)) (v:Value) :
  w.setCell ⟨b,o,none⟩ v=w.putObj b (.cells ⟨vs.set o v⟩ T fz):=by
 unfold World.setCell World.putObj;congr 1;apply Array.ext_getElem?;intro j;rw[Array.getElem?_modify];by_cases hj:b=j
 ·subst hj
  obtain ⟨hb,he⟩:=Array.getElem?_eq_some_iff.1 h;simp [hb,he]
 ·simp [hj,Array.getElem?_setIfInBounds_ne hj]
theorem nL (b:Nat) (x y:Obj):(w.putObj b x).putObj b y=w.putObj b y:=by
 simp [World.putObj]
def overwrite {α:Type} (l:List α) (o:Nat) (new:List α):List α:=l.take o++new++l.drop (o+new.length)
theorem bW {b:Nat} {T:TypeId}:∀ (new:List Value) (o i:Nat) (w:World) (vs:List Value),w.heap[b]?=some (.cells ⟨vs⟩ T (0,0))→(∀ v∈new,oneC v=true)→o+i+new.length≤vs.length →
  (storeCells ⟨b,o,none⟩ new i).run P w=.ok () (w.putObj b (.cells ⟨overwrite vs (o+i) new⟩ T (0,0)))
 |[],o,i,w,vs,h,_,_=>by
  have:w.putObj b (.cells ⟨vs⟩ T (0,0))=w:=by
   unfold World.putObj;have hb:=(Array.getElem?_eq_some_iff.1 h)
   have:w.heap.setIfInBounds b (.cells ⟨vs⟩ T (0,0))=w.heap:=by
    apply Array.ext_getElem?;intro j;by_cases hj:b=j
    ·subst hj;obtain ⟨hb1,hb2⟩:=hb;simp [hb1,hb2]
    ·simp [Array.getElem?_setIfInBounds_ne hj]
   rw[this]
  simp [storeCells,overwrite,this]
 |v::new,o,i,w,vs,h,h1,h2=>by
  have hlt:o+i < vs.length:=by simp at h2;omega
  have hc:w.cell? ⟨b,o+i,none⟩=some vs[o+i]:=by rw[cell_of_heap h];simp [hlt]
  have hf:w.frozen? ⟨b,o+i,none⟩=false:=by simp [World.frozen?,h]
  have hv:oneC v=true:=h1 v (by simp)
  have hs:(store (Addr.add ⟨b,o,none⟩ i) v).run P w=.ok () (w.putObj b (.cells ⟨vs.set (o+i) v⟩ T (0,0))):=by
   rw[cD];unfold store;cases v <;> simp_all [Sem.run,oneC,ns h]
  have hb:=(Array.getElem?_eq_some_iff.1 h).1;have ih:=bW new o (i+1) (w.putObj b (.cells ⟨vs.set (o+i) v⟩ T (0,0))) (vs.set (o+i) v) (World.putObj_heap_same hb) (fun x hx=>h1 x (by simp [hx])) (by simp at h2 ⊢;omega);unfold storeCells;simp only[Sem.run_bind,hs,Result.andThen_ok,ih,nL];congr 4;unfold overwrite;rw[show o+(i+1)=o+i+1 from by omega,List.take_succ_eq_append_getElem (by simpa using hlt)];simp only[List.getElem_set_self,List.length_cons];rw[List.take_set_of_le (Nat.le_refl _),List.drop_set_of_lt (by omega)];simp [show o+i+1+new.length=o+i+(new.length+1) from by omega]
theorem eV {t:TypeId} {b o:Nat} {T:TypeId} {vs:List Value} {v:Value} (hs:aZ P t=some v.cells.size) (h:w.heap[b]?=some (.cells ⟨vs⟩ T (0,0))) (h1:∀ u∈v.cells.toList,oneC u=true) (h2:o+v.cells.size≤vs.length) :
  (storeVar t ⟨b,o,none⟩ v).run P w=.ok () (w.putObj b (.cells ⟨overwrite vs o v.cells.toList⟩ T (0,0))):=by
 have:=bW (P:=P) v.cells.toList o 0 w vs h h1 (by simpa using h2)
 simp [storeVar,run_sizeOf hs,this]
theorem heap_alloc_new (o:Obj):(w.alloc o).heap[w.heap.size]?=some o:=by show (w.heap.push o)[w.heap.size]?=_;simp
theorem heap_alloc_old (o:Obj) {b:Nat} (h:b < w.heap.size):(w.alloc o).heap[b]?=w.heap[b]?:=by
 show (w.heap.push o)[b]?=_;rw[Array.getElem?_push,if_neg (by omega)]
end Go.AM
end
section
namespace Go.AM
variable {P:Program} {ans:FuncId→Ann} {an:Ann} {w:World} {B0:Nat} {Ψ:HT} {ρ:List Nat} {ow:Own} {tmps:Array Value} {R:Type} {r:R}
theorem aA {b:Bool} {k:Option R} (h:aJ b k=some r):b=true∧k=some r:=by
 cases b <;> simp_all [aJ]
theorem aC {α:Type} {x:Option α} {f:α→Option R} (h:x.bind f=some r):∃ a,x=some a∧f a=some r:=by
 cases x with
 |none=>simp at h
 |some a=>exact ⟨a,rfl,by simpa using h⟩
theorem OwnRel.val {id:Oid} {sz:Nat} {xs:List AVal} {v:Value} (h:OwnRel w B0 Ψ ow id sz xs v):VRel Ψ ρ (.slice xs) v:=h.rel.mono Ψ.le_refl (pre_nil _)
theorem CRel.get {id:Oid} {c:Cell} {v:Value} (h:CRel w B0 Ψ ρ ow id c v):c.get.isCell=true∧VRel Ψ ρ c.get v:=by
 cases h with
 |val c v hc h=>exact ⟨hc,h⟩
 |own sz xs v h=>exact ⟨rfl,h.val⟩
theorem CsRel.agg {k:Bool} {i:Nat} {cs:List Cell} {vs:List Value} (h:CsRel w B0 Ψ ρ ow k i cs vs):VRel Ψ ρ (.agg (cs.map Cell.get)) (.agg ⟨vs⟩):=by
 refine .agg _ vs (by simpa using h.1) ?_ ?_
 ·intro j c hc
  simp only[List.getElem?_map,Option.map_eq_some_iff] at hc;obtain ⟨c',hc',rfl⟩:=hc;have hj:j < vs.length:=by rw[←h.1];exact (List.getElem?_eq_some_iff.1 hc').1
  exact (h.2 j c' vs[j] hc' (by simp [hj])).get.1
 ·intro j c v hc hv
  simp only[List.getElem?_map,Option.map_eq_some_iff] at hc;obtain ⟨c',hc',rfl⟩:=hc;exact (h.2 j c' v hc' hv).get.2
theorem iG {t:Nat} {s:Slot} {v:Value} (h:SRel w B0 Ψ ρ ow tmps t s v) {k:AVal→Option R} (e:asV s k=some r):∃ x,k x=some r∧VRel Ψ ρ x v:=by
 cases h with
 |dead=>simp [asV] at e
 |val x v h=>exact ⟨x,e,h⟩
 |tup=>simp [asV] at e
 |own sz xs v h=>exact ⟨_,e,h.val⟩
 |full xs a n h=>exact ⟨_,e,h.mono Ψ.le_refl (pre_nil _)⟩
 |nl=>exact ⟨_,e,.slice [] none 0 0 0 rfl (Nat.le_refl _) (fun i x hx=>by simp at hx)⟩
 |nn xs a n c h=>exact ⟨_,e,h.mono Ψ.le_refl (pre_nil _)⟩
 |cells cs vs h=>exact ⟨_,e,h.agg⟩
 |box=>simp [asV] at e
 |ref=>simp [asV] at e
theorem sO {t:Nat} {s:Slot} {v:Value} (h:SRel w B0 Ψ ρ ow tmps t s v) {k:List AVal→Option R} (e:kP s k=some r):∃ xs,k xs=some r∧VRel Ψ ρ (.slice xs) v:=by
 cases h with
 |dead=>simp [kP] at e
 |val x v h=>cases x <;> first|(simp [kP] at e;done)|exact ⟨_,e,h⟩
 |tup=>simp [kP] at e
 |own sz xs v h=>exact ⟨_,e,h.val⟩
 |full xs a n h=>exact ⟨_,e,h.mono Ψ.le_refl (pre_nil _)⟩
 |nl=>exact ⟨_,e,.slice [] none 0 0 0 rfl (Nat.le_refl _) (fun i x hx=>by simp at hx)⟩
 |nn xs a n c h=>exact ⟨_,e,h.mono Ψ.le_refl (pre_nil _)⟩
 |cells=>simp [kP] at e
 |box=>simp [kP] at e
 |ref=>simp [kP] at e
theorem eM {t:Nat} {s:Slot} {v:Value} (h:SRel w B0 Ψ ρ ow tmps t s v) {k:IntKind→Int→Option R} (e:asInt s k=some r):∃ kd n,k kd n=some r∧v=.int kd n:=by
 cases h with
 |val x v h=>cases h <;> first|(simp [asInt] at e;done)|exact ⟨_,_,e,rfl⟩
 |_=>simp [asInt] at e
theorem yV {t:Nat} {s:Slot} {v:Value} (h:SRel w B0 Ψ ρ ow tmps t s v) {k:Bool→Option R} (e:asBool s k=some r):∃ b,k b=some r∧v=.bool b∧s=.val (.bool b):=by
 cases h with
 |val x v h =>
  cases h with
  |bool b=>refine ⟨b,?_,rfl,rfl⟩;cases b <;> simpa [asBool] using e
  |_=>simp [asBool] at e
 |_=>simp [asBool] at e
theorem fZ {v:Value} {x:AVal} (h:iY v=some x):x.isCell=true∧VRel Ψ ρ x v:=by
 unfold iY at h
 split at h <;> simp at h <;> subst h <;> refine ⟨rfl,?_⟩
 ·exact .bool _
 ·exact .int _ _
 ·exact .str _
 ·exact .nilptr
 ·exact .slice [] none 0 0 0 rfl (Nat.le_refl _) (fun i x hx=>by simp at hx)
 ·exact .nilmap
 ·exact .nilfunc
 ·exact .nilif
theorem qM:∀ {vs:List Value} {xs:List AVal},kh vs=some xs→xs.length=vs.length∧∀ (i:Nat) (x:AVal) (v:Value),xs[i]?=some x→vs[i]?=some v→iY v=some x
 |[],xs,h=>by simp [kh] at h;subst h;simp
 |v::vs,xs,h=>by
  simp only[kh,Option.bind_eq_some_iff,Option.map_eq_some_iff] at h;obtain ⟨a,ha,l,hl,rfl⟩:=h;obtain ⟨h1,h2⟩:=qM hl;refine ⟨by simp [h1],fun i x v' hx hv=>?_⟩;cases i with
  |zero=>simp at hx hv;subst hx;subst hv;exact ha
  |succ i=>simp at hx hv;exact h2 i x v' hx hv
theorem fA {v:Value} {x:AVal} (h:gH v=some x):VRel Ψ ρ x v:=by
 cases v with
 |agg cs =>
  simp only[gH,Option.map_eq_some_iff] at h;obtain ⟨l,hl,rfl⟩:=h;obtain ⟨h1,h2⟩:=qM hl;obtain ⟨cs⟩:=cs;refine .agg l cs h1 ?_ (fun i c v hc hv=>(fZ (h2 i c v hc hv)).2);intro i c hc;have hi:i < cs.length:=by rw[←h1];exact (List.getElem?_eq_some_iff.1 hc).1
  exact (fZ (Ψ:=Ψ) (ρ:=ρ) (h2 i c cs[i] hc (by simp [hi]))).1
 |_=>exact (fZ (by simpa only [gH] using h)).2
theorem sT (t:Nat) (v:Value):SRel w B0 Ψ ρ ow tmps t (gJ v) v:=by
 unfold gJ;split
 ·exact .nl
 ·split
  ·exact .val _ _ (fA ‹_›)
  ·exact .dead _
theorem wM (id:Oid) (sz:Nat):OwnRel w B0 Ψ ow id sz [] (.slice none 0 0) :=
 ⟨.slice [] none 0 0 0 rfl (Nat.le_refl _) (fun i x hx=>by simp at hx),fun x hx=>by simp at hx,none,0,0,rfl,.inl rfl⟩
theorem qt (t:Nat) (ty:TypeId) (v:Value):SRel w B0 Ψ ρ ow tmps t (l8 P ty v) v:=by
 unfold l8;split
 ·split
  ·exact .own _ _ _ (wM _ _)
  ·exact .nl
 ·exact sT t v
abbrev sl (an:Ann) (tm:List Slot) (rs:RS):Nat→Slot:=rs.look an.keep tm
theorem dG (keep:List Nat) (tm:List Slot) (rs:RS) (d:Nat) (s:Slot):(rs.put d s).look keep tm=upd (rs.look keep tm) d s:=by
 funext t;unfold RS.look RS.put upd;by_cases h:t=d
 ·subst h;simp [bZ]
 ·have:Nat.beq d t=false:=by
   cases e:Nat.beq d t with
   |false=>rfl
   |true=>exact absurd (Nat.eq_of_beq_eq_true e).symm h
  simp [bZ,this,h]
theorem bH {tm:List Slot} {rs:RS} {objs:List AObj} {ds:List Deferred} (h:Rel P ans B0 w Ψ ρ ow an (sl an tm rs) tmps objs) (x:Operand) :
  ∃ t,SRel w B0 Ψ ρ ow tmps t (opS an.keep tm rs x) ((⟨tmps,ds⟩:Act).eval x)∧(∀ u,x=.tmp u→t=u):=by
 cases x with
 |tmp t=>exact ⟨t,h.slots t,fun u e=>by cases e;rfl⟩
 |const v=>exact ⟨0,sT 0 v,fun u e=>by cases e⟩
 |global g=>exact ⟨0,.dead _,fun u e=>by cases e⟩
 |func f=>exact ⟨0,.val _ _ (.func f [] [] rfl (fun i c v hc=>by simp at hc)),fun u e=>by cases e⟩
def ren (ow:Own) (k1:Bool) (i1:Nat) (k2:Bool) (i2 off:Nat):Own:=fun b =>
 match ow b with
 |some (k,i,s)=>if k=k1∧i=i1 then some (k2,i2,s+off) else some (k,i,s)
 |none=>none
section
variable (w:World) (Ψ:HT) (ow:Own) {k1 k2:Bool} {i1 i2 off:Nat}
theorem j5 {b:Nat} (h:ren ow k1 i1 k2 i2 off b≠none):ow b≠none:=by
 intro e;simp [ren,e] at h
theorem wT:Same w Ψ ow w Ψ (ren ow k1 i1 k2 i2 0) k1 i1 k2 i2:=fun b s h=>⟨by simp [ren,h],rfl,fun _ h=>h⟩
theorem eS {k:Bool} {i:Nat} (h:¬ (k=k1∧i=i1)):Same w Ψ ow w Ψ (ren ow k1 i1 k2 i2 off) k i k i:=fun b s e=>⟨by simp [ren,e,h],rfl,fun _ h=>h⟩
theorem Fr.ren:Fr w Ψ ow w Ψ (ren ow k1 i1 k2 i2 off):=⟨Ψ.le_refl,Nat.le_refl _,fun _ _ _=>⟨rfl,fun _=>rfl⟩,fun b h=>.inl (j5 ow h),rfl,rfl,rfl⟩
end
theorem Rel.take {E:Nat→Slot} {objs:List AObj} (h:Rel P ans B0 w Ψ ρ ow an E tmps objs) (t:Nat) (ht:t < an.nt) (x:AVal) (hx:VRel Ψ ρ x (tmps.getD t undef)) (hb:∀ cs,E t≠.box cs) (q:Nat) :
  Rel P ans B0 w Ψ ρ (ren ow false t false q 0) an (upd E t (.val x)) tmps objs∧SRel w B0 Ψ ρ (ren ow false t false q 0) tmps q (E t) (tmps.getD t undef):=by
 refine ⟨?_,(h.slots t).mono Ψ.le_refl (aG _) (wT _ _ _) (fun _ _ _=>rfl)⟩;refine ⟨h.size,h.wsat,fun u=>?_,fun d u o e=>?_,fun u cs e=>?_,h.objs.mono Ψ.le_refl (fun i _=>eS _ _ _ (by simp)),fun b hb'=>h.lt b (j5 _ hb'),h.base,fun u hu=>?_⟩
 ·by_cases hu:u=t
  ·subst hu;rw[dU];exact .val _ _ hx
  ·rw[bG _ _ hu];exact (h.slots u).mono Ψ.le_refl (aG _) (eS _ _ _ (by simp [hu])) (fun _ _ _=>rfl)
 ·by_cases hd:d=t
  ·subst hd;simp at e
  ·rw[bG _ _ hd] at e
   obtain ⟨cs,hc⟩:=h.refs d u o e;by_cases hu:u=t
   ·subst hu;exact absurd hc (hb cs)
   ·exact ⟨cs,by rw[bG _ _ hu];exact hc⟩
 ·by_cases hu:u=t
  ·subst hu;simp at e
  ·rw[bG _ _ hu] at e;exact h.boxes u cs e
 ·rw[bG _ _ (by omega)];exact h.hi u hu
theorem Rel.lt_of {E:Nat→Slot} {objs:List AObj} (h:Rel P ans B0 w Ψ ρ ow an E tmps objs) {t:Nat} (ht:E t≠.dead):t < an.nt:=by
 rcases Nat.lt_or_ge t an.nt with h1|h1
 ·exact h1
 ·exact absurd (h.hi t h1) ht
end Go.AM
end
section
namespace Go.AM
variable {P:Program} {ans:FuncId→Ann} {an:Ann} {w:World} {B0:Nat} {Ψ:HT} {ρ:List Nat} {ow:Own} {tmps:Array Value} {R:Type} {r:R}
structure StoLe (a b:Sto):Prop where
 lo:b.lo=a.lo
 len:a.objs.length≤b.objs.length
 keep:∀ i,i < a.lo→b.objs[i]?=a.objs[i]?
theorem StoLe.refl (a:Sto):StoLe a a:=⟨rfl,Nat.le_refl _,fun _ _=>rfl⟩
theorem StoLe.trans {a b c:Sto} (h:StoLe a b) (k:StoLe b c):StoLe a c:=⟨k.lo.trans h.lo,Nat.le_trans h.len k.len,fun i hi=>(k.keep i (by rw[h.lo];exact hi)).trans (h.keep i hi)⟩
section
variable (P ans an B0 w Ψ ρ ow tmps)
def Goal (tm:List Slot) (rs:RS) (dst:Option Nat) (m:Machine) (mk mp:Value→World→Machine) (kp:AVal→RS→Option R) (k:Slot→RS→Option R) (r:R):Prop :=
 (∃ s rs' v w' Ψ' ρ' ow',k s rs'=some r∧Rel P ans B0 w' Ψ' ρ' ow' an (sl an tm rs') tmps rs'.sto.objs∧SRel w' B0 Ψ' ρ' ow' tmps an.nt s v ∧
  (∀ u o,s=.ref u o→∃ cs,sl an tm rs' u=.box cs)∧(∀ cs,s=.box cs→∃ d,dst=some d∧an.loc.contains d=true) ∧
  Fr w Ψ ow w' Ψ' ow'∧pre ρ ρ'∧StoLe rs.sto rs'.sto∧Steps P m (mk v w')) ∨
 (∃ x rs' v w' Ψ' ρ' ow',kp x rs'=some r∧Rel P ans B0 w' Ψ' ρ' ow' an (sl an tm rs') tmps rs'.sto.objs∧VRel Ψ' ρ' x v ∧
  Fr w Ψ ow w' Ψ' ow'∧pre ρ ρ'∧StoLe rs.sto rs'.sto∧Steps P m (mp v w'))
end
variable {tm:List Slot} {rs:RS} {dst:Option Nat} {m:Machine} {mk mp:Value→World→Machine} {kp:AVal→RS→Option R} {k:Slot→RS→Option R}
theorem Goal.plain (h:Rel P ans B0 w Ψ ρ ow an (sl an tm rs) tmps rs.sto.objs) {s:Slot} {v:Value} (hk:k s rs=some r) (hs:SRel w B0 Ψ ρ ow tmps an.nt s v)
  (hr:∀ u o,s=.ref u o→∃ cs,sl an tm rs u=.box cs) (hb:∀ cs,s≠.box cs) (hst:Steps P m (mk v w)):Goal P ans an w B0 Ψ ρ ow tmps tm rs dst m mk mp kp k r :=
 .inl ⟨s,rs,v,w,Ψ,ρ,ow,hk,h,hs,hr,fun cs e=>absurd e (hb cs),Fr.refl _ _ _,aG _,StoLe.refl _,hst⟩
theorem Goal.val (h:Rel P ans B0 w Ψ ρ ow an (sl an tm rs) tmps rs.sto.objs) {x:AVal} {v:Value} (hk:k (.val x) rs=some r) (hs:VRel Ψ ρ x v) (hst:Steps P m (mk v w)):Goal P ans an w B0 Ψ ρ ow tmps tm rs dst m mk mp kp k r :=
 .plain h hk (.val _ _ hs) (fun _ _ e=>by cases e) (fun _ e=>by cases e) hst
theorem SRel.at {t t':Nat} {s:Slot} {v:Value} (h:SRel w B0 Ψ ρ ow tmps t s v) (h1:∀ sz xs,s≠.own sz xs) (h2:∀ cs,s≠.cells cs) (h3:∀ cs,s≠.box cs):SRel w B0 Ψ ρ ow tmps t' s v:=by
 cases h with
 |dead=>exact .dead _
 |val x v h=>exact .val x v h
 |tup xs vs hl h=>exact .tup xs vs hl h
 |own sz xs v h=>exact absurd rfl (h1 sz xs)
 |full xs a n h=>exact .full xs a n h
 |nl=>exact .nl
 |nn xs a n c h=>exact .nn xs a n c h
 |cells cs vs h=>exact absurd rfl (h2 cs)
 |box cs b h=>exact absurd rfl (h3 cs)
 |ref u o b h=>exact .ref u o b h
theorem sj (h:Rel P ans B0 w Ψ ρ ow an (sl an tm rs) tmps rs.sto.objs) {t:Nat} {s:Slot} {v:Value} (hs:SRel w B0 Ψ ρ ow tmps t s v) (href:∀ u o,s=.ref u o→∃ cs,sl an tm rs u=.box cs)
  (e:mv s (fun s'=>k s' rs)=some r) (hst:Steps P m (mk v w)):Goal P ans an w B0 Ψ ρ ow tmps tm rs dst m mk mp kp k r:=by
 cases hs with
 |dead=>simp [mv] at e
 |val x v hv=>exact .val h e hv hst
 |tup xs vs hl hv=>exact .plain h e (.tup xs vs hl hv) (fun _ _ e=>by cases e) (fun _ e=>by cases e) hst
 |own sz xs v hv=>exact .val h e hv.val hst
 |full xs a n hv=>exact .plain h e (.full xs a n hv) (fun _ _ e=>by cases e) (fun _ e=>by cases e) hst
 |nl=>exact .plain h e .nl (fun _ _ e=>by cases e) (fun _ e=>by cases e) hst
 |nn xs a n c hv=>exact .plain h e (.nn xs a n c hv) (fun _ _ e=>by cases e) (fun _ e=>by cases e) hst
 |cells cs vs hv=>exact .val h e hv.agg hst
 |box=>simp [mv] at e
 |ref u o b hv=>exact .plain h e (.ref u o b hv) href (fun _ e=>by cases e) hst
theorem pC (h:Rel P ans B0 w Ψ ρ ow an (sl an tm rs) tmps rs.sto.objs) (x:Operand):∀ u o,opS an.keep tm rs x=.ref u o→∃ cs,sl an tm rs u=.box cs:=by
 intro u o e;cases x with
 |tmp t=>exact h.refs t u o e
 |const v =>
  simp only[opS,gJ] at e
  split at e
  ·cases e
  ·split at e <;> cases e
 |global=>simp [opS] at e
 |func=>simp [opS] at e
variable {ds:List Deferred}
theorem rq (h:Rel P ans B0 w Ψ ρ ow an (sl an tm rs) tmps rs.sto.objs) (t:Nat) (x:AVal) (hx:VRel Ψ ρ x (tmps.getD t undef)) (hne:sl an tm rs t≠.dead) (hnb:∀ cs,sl an tm rs t≠.box cs) (hnr:∀ u o,sl an tm rs t≠.ref u o)
  (e:k (sl an tm rs t) (rs.put t (.val x))=some r) (hst:Steps P m (mk (tmps.getD t undef) w)):Goal P ans an w B0 Ψ ρ ow tmps tm rs dst m mk mp kp k r:=by
 obtain ⟨h1,h2⟩:=h.take t (h.lt_of hne) x hx hnb an.nt;refine .inl ⟨_,_,_,w,Ψ,ρ,_,e,?_,h2,fun u o he=>absurd he (hnr u o),fun cs he=>absurd he (hnb cs),Fr.ren _ _ _,aG _,StoLe.refl _,hst⟩;rw[show sl an tm (rs.put t (.val x))=upd (sl an tm rs) t (.val x) from dG _ _ _ _ _];exact h1
theorem aCM (h:Rel P ans B0 w Ψ ρ ow an (sl an tm rs) tmps rs.sto.objs) {tk:Bool} {ty:TypeId} {x:Operand} (e:mvK P an tm tk ty x rs k=some r)
  (hst:Steps P m (mk ((⟨tmps,ds⟩:Act).eval x) w)):Goal P ans an w B0 Ψ ρ ow tmps tm rs dst m mk mp kp k r:=by
 obtain ⟨t,hs,ht⟩:=bH (ds:=ds) h x;have href:=pC h x;unfold mvK at e
 split at e
 ·rename_i t'
  obtain rfl:=ht t' rfl
  split at e
  ·rename_i sz xs hop
   have hop':sl an tm rs t=.own sz xs:=hop
   split at e
   ·refine rq h t (.slice xs) ?_ (by rw[hop'];simp) (by rw[hop'];simp) (by rw[hop'];simp) (by rw[hop'];exact e) hst
    rw[hop] at hs;cases hs with|own _ _ _ hv=>exact hv.val
   ·rw[hop] at hs;cases hs with|own _ _ _ hv=>exact .val h e hv.val hst
  ·rename_i cs hop
   have hop':sl an tm rs t=.cells cs:=hop
   split at e
   ·refine rq h t (.agg (cs.map Cell.get)) ?_ (by rw[hop'];simp) (by rw[hop'];simp) (by rw[hop'];simp) (by rw[hop'];exact e) hst
    rw[hop] at hs;generalize (Act.eval { tmps:=tmps,defers:=ds } (Operand.tmp t))=v at hs
    change SRel w B0 Ψ ρ ow tmps t (.cells cs) v at hs
    exact (show VRel Ψ ρ (.agg (cs.map Cell.get)) (tmps.getD t undef) from by
     have:=h.slots t;rw[hop'] at this
     generalize tmps.getD t undef=u at this;cases this with|cells _ _ hv=>exact hv.agg)
   ·rw[hop] at hs
    generalize (Act.eval { tmps:=tmps,defers:=ds } (Operand.tmp t))=v at hs hst;cases hs with|cells _ _ hv=>exact .val h e hv.agg hst
  ·exact sj h hs href e hst
 ·rename_i v
  have hc:=qt (P:=P) (w:=w) (B0:=B0) (Ψ:=Ψ) (ρ:=ρ) (ow:=ow) (tmps:=tmps) an.nt ty v
  split at e
  ·cases e
  ·rename_i s hne
   refine .plain h e hc (fun u o he=>?_) (fun cs he=>?_) hst
   ·unfold l8 at he
    split at he
    ·split at he <;> cases he
    ·unfold gJ at he;split at he
     ·cases he
     ·split at he <;> cases he
   ·unfold l8 at he
    split at he
    ·split at he <;> cases he
    ·unfold gJ at he;split at he
     ·cases he
     ·split at he <;> cases he
 ·exact sj h hs href e hst
end Go.AM
end
