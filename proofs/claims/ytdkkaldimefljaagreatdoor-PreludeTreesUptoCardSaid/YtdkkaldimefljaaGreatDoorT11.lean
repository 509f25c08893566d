import Derived.Test.YtdkkaldimefljaaGreatDoorT10
import Derived.Test.YtdkkaldimefljaaGreatDoorProg
import Derived.Test.YtdkkaldimefljaaGreatDoorRows
import Derived.Deep.Slices
import Derived.Deep.Strs
import Derived.Lib.LaidTab
import Derived.DataElems
import Derived.ChangeArms
import Derived.Test.YtdkkaldimefljaaGreatDoorA13
import Derived.Shelf.Vars
import Derived.Carry
import Derived.OpenShut
import Derived.KernelRfl
import Derived.Test.YtdkkaldimefljaaGreatDoorCards
import Derived.LaidByTextLater
import Derived.SevenTiedAt
import Derived.LaidOnce
import Derived.WalkKit
import Derived.ProofKit
import Derived.Deep.DeepHandedRow
import Derived.Deep.DeepWitnessRowRef
import Derived.Lib.LaidIn
set_option linter.all false
section
namespace Go.Proofs.YtdkkaldimefljaaGreatDoor
open Go.Proofs.YtdkkaldimefljaaGreatDoor Go.AM
inductive CAbs (W:World):AVal→Value→Prop
 |int (k:IntKind) (n:Int):CAbs W (.int k n) (.int k n)
 |str (s:ByteArray):CAbs W (.str s.data.toList) (.string s)
 |nil:CAbs W (.slice []) (.slice none 0 0)
 |opq (v:Value) (h:v=.nilIface∨∃ t x,v=.iface t x):CAbs W .opq v
 |slice (xs:List AVal) (b o len cap s:Nat) (sp:Option Nat) (vs:Nat→Nat→Value) (hl:xs.length=len) (hc:len≤cap) (hp:xs≠[]→sp=none) (hs:∀ (i:Nat) (x:AVal),xs[i]?=some x→x.cells.length=s)
   (hf:∀ (i:Nat) (x:AVal) (j:Nat) (c:AVal),xs[i]?=some x→x.cells[j]?=some c→flat c=true∧W.cell? ⟨b,o+i * s+j,none⟩=some (vs i j))
   (hx:∀ (i:Nat) (x:AVal) (j:Nat) (c:AVal),xs[i]?=some x→x.cells[j]?=some c→CAbs W c (vs i j)):CAbs W (.slice xs) (.slice (some ⟨b,o,sp⟩) len cap)
def Psi (W:World):HT:=fun b o c=>flat c=true∧∃ v,W.cell? ⟨b,o,none⟩=some v∧CAbs W c v
theorem CAbs.rel {W:World} {ρ:List Nat} {c:AVal} {v:Value} (h:CAbs W c v):VRel (Psi W) ρ c v:=by
 induction h with
 |int k n=>exact .int k n
 |str s =>
  have:s=⟨⟨s.data.toList⟩⟩:=by cases s;simp
  rw[this];exact .str _
 |nil=>exact .slice [] none 0 0 0 rfl (Nat.le_refl _) (fun i x e=>by simp at e)
 |opq v h=>exact .opq v h
 |slice xs b o len cap s sp vs hl hc hp hs hf hx ih =>
  refine .slice xs _ len cap s hl hc fun i x e=>⟨hs i x e,b,o,?_,fun j c hj=>⟨(hf i x j c e hj).1,_,(hf i x j c e hj).2,hx i x j c e hj⟩⟩
  rw[hp (fun h=>by rw[h] at e;simp at e)]
structure Rd (W:World) (xs:List AVal) (vs:List Value):Prop where
 len:xs.length=vs.length
 abs:∀ (j:Nat) (c:AVal) (v:Value),xs[j]?=some c→vs[j]?=some v→flat c=true∧CAbs W c v
theorem Rd.one {W:World} {c:AVal} {v:Value} (hf:flat c=true) (h:CAbs W c v):Rd W [c] [v]:=⟨rfl,fun j x u hx hu=>by
 cases j with
 |zero=>simp at hx hu;subst hx;subst hu;exact ⟨hf,h⟩
 |succ j=>simp at hx⟩
theorem Rd.append {W:World} {a b:List AVal} {u v:List Value} (h:Rd W a u) (k:Rd W b v):Rd W (a++b) (u++v):=⟨by simp [h.len,k.len],fun j c x hc hx=>by
 rw[List.getElem?_append] at hc hx;rw[h.len] at hc
 split at hc
 ·rename_i hj;rw[if_pos hj] at hx;exact h.abs j c x hc hx
 ·rename_i hj;rw[if_neg hj] at hx;exact k.abs _ c x hc hx⟩
section
variable {H:Type} {enc:TypeId×Value→H} {W:World} {sp:Nat→Bool} {hd:Bool}
noncomputable abbrev rd (enc:TypeId×Value→H) (W:World) (sp:Nat→Bool) (hd:Bool) (n:Nat) (t:TypeId) (cs:List Value):=DataW.trod enc Tryz.prog W 0 sp hd n t cs
theorem aFe {n t k} (ht:Tryz.prog.underlying t=some (.int k)) {cs:List Value} {x} (h:rd enc W sp hd n t cs=some x):∃ z:Int,cs=[.int k z]∧(Lit.int k z).wf=true∧Rd W [.int k z] cs∧1≤Rows.uptoBulk x.1:=by
 obtain ⟨z,rfl,rfl,hw⟩:=DataW.trod_int ht h;exact ⟨z,rfl,hw,.one rfl (.int _ _),by simp [Rows.uptoBulk]⟩
def tot {α:Type} (sz:α→Nat):List α→Nat
 |[]=>0
 |a::l=>sz a+1+tot sz l
theorem uN {α:Type} (sz:α→Nat):∀ a b:List α,tot sz (a++b)=tot sz a+tot sz b
 |[],b=>by simp [tot]
 |x::a,b=>by simp only[List.cons_append,tot,uN sz a b];omega
theorem lT {H:Type}:∀ l r:List (DataW H),Rows.uptoBulkAll (l++r)=Rows.uptoBulkAll l+Rows.uptoBulkAll r
 |[],r=>by simp [Rows.uptoBulkAll]
 |x::l,r=>by simp only[List.cons_append,Rows.uptoBulkAll,lT l r];omega
theorem aEy {α:Type} (en:α→AVal) (sz:α→Nat) {n t e s:Nat} (ht:Tryz.prog.underlying t=some (.slice e)) (hs:Tryz.prog.cellsOf e=s) (hs0:0 < s) (hfl:∀ a,(en a).cells.length=s) {cs:List Value} {x}
  (ih:∀ m,m < n→∀ cs x,rd enc W sp hd m e cs=some x→∃ a:α,Rd W (en a).cells cs∧sz a+1≤Rows.uptoBulk x.1)
  (h:rd enc W sp hd n t cs=some x):∃ l:List α,Rd W [.slice (l.map en)] cs∧tot sz l+1≤Rows.uptoBulk x.1:=by
 rcases DataW.trod_slice ht h with ⟨rfl,rfl⟩|⟨a,len,cap,elems,rest,m,rfl,rfl,rfl,hb,hlc,hmx,hel,hE,_,_⟩
 ·exact ⟨[],.one rfl .nil,by simp [tot,Rows.uptoBulk]⟩
 ·have build:∀ k,k≤len→∃ l:List α,l.length=k∧(∀ (i:Nat) (a0:α),l[i]?=some a0→∃ cs',W.cells? 0 (a.add (i * s)) s=some cs'∧Rd W (en a0).cells cs')∧tot sz l≤Rows.uptoBulkAll ((elems.take k).map (·.1)):=by
   intro k;induction k with
   |zero=>intro _;exact ⟨[],rfl,fun i a0 e=>by simp at e,by simp [tot]⟩
   |succ k ihk =>
    intro hk;obtain ⟨l,l1,l2,l3⟩:=ihk (by omega);have h1:=hE k (by omega);have hke:k < elems.length:=by omega
    rw[List.getElem?_eq_getElem hke] at h1;obtain ⟨cs',g1,g2⟩:=Option.bind_eq_some_iff.1 h1;obtain ⟨a0,k1,k2⟩:=ih m (by omega) cs' _ g2;refine ⟨l++[a0],by simp [l1],fun i b0 e=>?_,?_⟩
    ·rw[List.getElem?_append] at e
     split at e
     ·exact l2 i b0 e
     ·rename_i hi
      have hik:i=k:=by
       have:=(List.getElem?_eq_some_iff.1 e).1
       simp at this;omega
      subst hik;simp [l1] at e;subst e;exact ⟨cs',by rw[←hs];exact g1,k1⟩
    ·rw[List.take_add_one,List.getElem?_eq_getElem hke]
     simp only[Option.toList_some,List.map_append,List.map_cons,List.map_nil,lT,uN];simp only[tot,Rows.uptoBulkAll];omega
  obtain ⟨l,l1,l2,l3⟩:=build len (Nat.le_refl _);rw[List.take_of_length_le (by omega)] at l3;refine ⟨l,?_,by simp only[Rows.uptoBulk];omega⟩
  have hcell:∀ (i:Nat) (a0:α) (j:Nat) (c:AVal),l[i]?=some a0→(en a0).cells[j]?=some c→∃ v,W.cell? (a.add (i * s+j))=some v∧flat c=true∧CAbs W c v:=fun i a0 j c h1 h2=>by
   obtain ⟨cs',g1,g2⟩:=l2 i a0 h1;obtain ⟨_,g3,g4⟩:=World.cells?_some g1;have hj:j < s:=by rw[←hfl a0];exact (List.getElem?_eq_some_iff.1 h2).1
   have hjc:j < cs'.length:=by omega
   have h5:=g4 j hj;rw[Addr.add_add,List.getElem?_eq_getElem hjc] at h5;have h6:=g2.abs j c _ h2 (List.getElem?_eq_getElem hjc);exact ⟨_,h5,h6.1,h6.2⟩
  obtain ⟨b,o,spt⟩:=a
  have hspot:l.map en≠[]→spt=none:=fun hne=>by
   cases l with
   |nil=>exact absurd rfl hne
   |cons a0 l =>
    have h0:0 < (en a0).cells.length:=by rw[hfl];exact hs0
    obtain ⟨v,h1,_⟩:=hcell 0 a0 0 _ rfl (List.getElem?_eq_getElem h0)
    have:=World.cell?_spot h1
    simpa [Addr.add] using this
  refine .one rfl (.slice (l.map en) b o len cap s spt (fun i j=>(W.cell? ⟨b,o+i * s+j,none⟩).getD undef) (by simp [l1]) hlc hspot (fun i x e=>?_) (fun i x j c e hj=>?_) (fun i x j c e hj=>?_))
  all_goals
   rw[List.getElem?_map,Option.map_eq_some_iff] at e;obtain ⟨a0,e1,rfl⟩:=e
  ·exact hfl a0
  ·obtain ⟨v,h1,h2,_⟩:=hcell i a0 j c e1 hj
   have hsp:=hspot (fun h=>by have:=List.map_eq_nil_iff.1 h;subst this;simp at e1);subst hsp;rw[Go.WideShapes.add_plain,←Nat.add_assoc] at h1;exact ⟨h2,by rw[h1];rfl⟩
  ·obtain ⟨v,h1,_,h3⟩:=hcell i a0 j c e1 hj
   have hsp:=hspot (fun h=>by have:=List.map_eq_nil_iff.1 h;subst this;simp at e1);subst hsp;rw[Go.WideShapes.add_plain,←Nat.add_assoc] at h1;rw[h1];exact h3
theorem k3:Tryz.prog.cellsOf 3=1:=by kernel_rfl
theorem ga:∀ l:List Int,tot (fun _:Int=>0) l=l.length
 |[]=>rfl
 |t::l=>by simp only[tot,List.length_cons,ga l];omega
theorem aH8 (n:Nat) (cs:List Value) (x:DataW H×List MemPlace) (h:rd enc W sp hd n 22 cs=some x):∃ l:List Int,Rd W [.slice (l.map iH)] cs∧l.length+1≤Rows.uptoBulk x.1:=by
 obtain ⟨l,r,b⟩:=aEy iH (fun _=>0) Tryz.underlying22 k3 (by omega) (fun a=>rfl) (fun m' _ cs x h=>by
  obtain ⟨z,_,_,r1,b1⟩:=aFe Tryz.underlying3 h;exact ⟨z,r1,by omega⟩) h
 rw[ga] at b;exact ⟨l,r,b⟩
end
end Go.Proofs.YtdkkaldimefljaaGreatDoor
end
section
namespace Go.Proofs.YtdkkaldimefljaaGreatDoor
open Go.Proofs.YtdkkaldimefljaaGreatDoor Go.AM Go.RowKit
theorem wj {P:Program} {W:World}:∀ {l:List (String×DataW Unit)} {ps:List MemPlace},DataW.LaidVars P W l ps→∀ (i:Nat) (n:String) (d:DataW Unit),l[i]?=some (n,d) →
  ∃ g t cs fuel p,P.globalNamed n=some g∧(P.globals[g]?).map (·.type)=some t∧W.var? P n=some cs∧DataW.trod (fun _=>()) P W 0 (fun _=>true) false fuel t cs.toList=some (d,p)
 |(m,e)::r,ps,h,i,n,d,hi=>by
  obtain ⟨g,t,cs,fuel,p,q,h1,h2,h3,h4,h5,_⟩:=h;cases i with
  |zero=>simp at hi;obtain ⟨rfl,rfl⟩:=hi;exact ⟨g,t,cs,fuel,p,h1,h2,h3,h4⟩
  |succ i=>exact wj h5 i n d (by simpa using hi)
theorem gTab:Tryz.prog.globalNamed "math/bits.deBruijn64tab"=some 7:=by kernel_rfl
theorem size8 {W:World} (hl:laidMet Tryz.prog Rows.preludeTreesRow.laid W):8≤W.heap.size:=by
 obtain ⟨ps,h,_⟩:=hl;obtain ⟨g,t,cs,fuel,p,h1,h2,h3,h4⟩:=wj h 1 "math/bits.deBruijn64tab" _ rfl;obtain rfl:=Option.some.inj (gTab.symm.trans h1);simp only[World.var?,h1,Option.bind_some] at h3
 split at h3
 ·rename_i hh
  have:=(Array.getElem?_eq_some_iff.1 hh).1
  omega
 ·cases h3
theorem wsat {W:World} (h:8≤W.heap.size):WSat (Psi W) W:=⟨h,fun b o c ⟨h1,v,h2,h3⟩=>⟨h1,v,h2,h3.rel⟩⟩
theorem mq {W w':World} {Ψ Ψ':HT} {ow':Own} (h:Fr W Ψ (fun _=>none) w' Ψ' ow'):Below W.heap.size W w':=⟨h.os,h.tape,h.output,h.size,fun k hk=>(h.keep k hk rfl).1⟩
end Go.Proofs.YtdkkaldimefljaaGreatDoor
end
section
namespace Go.Proofs.YtdkkaldimefljaaGreatDoor
open Go.Proofs.YtdkkaldimefljaaGreatDoor Go.AM Go.RowKit Go.Lib
theorem aNG:ownKnob Tryz.prog.godebug=none:=by kernel_rfl
theorem laidOut:laidOutB Tryz.prog=true:=by kernel_rfl
def xX:Nat→DataW Unit→List Value
 |0,_=>[]
 |_+1,.lit (.int k z)=>[.int k z]
 |n+1,.agg l=>l.flatMap (xX n)
 |_,_=>[]
noncomputable def N0:Nat:=(World.settled Tryz.prog default).heap.size
noncomputable def mQ (os:Os):World :=
 let N:=(World.settled Tryz.prog os).heap.size
 let w0:=World.holding Tryz.prog os ⟨#[.cells #[.string ⟨#[118,97,108,117,101,32,111,117,116,32,111,102,32,114,97,110,103,101]⟩] 384,.cells #[.string ⟨#[105,110,118,97,108,105,100,32,115,121,110,116,97,120]⟩] 384],#[],[]⟩
 let put (h:Array Obj) (g:Nat) (cs:Array Value):Array Obj:=h.modify g fun
  |.cells _ t frozen=>.cells cs t frozen
  |o=>o
 let h1:=put w0.heap 1 #[.iface 382 (.pointer (some ⟨N+1,0,none⟩))]
 let h2:=put h1 2 #[.iface 382 (.pointer (some ⟨N,0,none⟩))]
 let h3:=put h2 3 (xX 3 Rows.laid_unicode_utf8_first).toArray
 let h4:=put h3 4 (xX 3 (Rows.laid_unicode_utf8_acceptRanges (H:=Unit))).toArray
 let h5:=put h4 5 (xX 3 (Rows.laid_internal_strconv_uint64pow10 (H:=Unit))).toArray
 let h6:=put h5 6 (xX 3 (Rows.laid_math_bits_deBruijn32tab (H:=Unit))).toArray
 let h7:=put h6 7 (xX 3 (Rows.laid_math_bits_deBruijn64tab (H:=Unit))).toArray
 { w0 with heap:=h7 }
theorem aCA (os:Os) (args:Array Value):laidMet Tryz.prog Rows.preludeTreesRow.laid ((mQ os).forCall (fun _ _=>0) ⟨#[],args,[]⟩).memory :=
 (LaidIn.of_run [1,2,3,4,5,6,7,N0,N0+1] 8 (by kernel_rfl) (by kernel_rfl) (by kernel_rfl) (by kernel_rfl)).met
set_option maxRecDepth 100000
theorem tieS:Tryz.prog.laidByTextLater [("math/bits.deBruijn32tab",Rows.laid_math_bits_deBruijn32tab),("math/bits.deBruijn64tab",Rows.laid_math_bits_deBruijn64tab),("internal/strconv.uint64pow10",Rows.laid_internal_strconv_uint64pow10),("unicode/utf8.acceptRanges",Rows.laid_unicode_utf8_acceptRanges),("strconv.ErrRange",Rows.laid_strconv_ErrRange),("strconv.ErrSyntax",Rows.laid_strconv_ErrSyntax)] [.data,.data,.data,.data,.sentinel,.sentinel] true :=
 Program.laidByTextLater_by_one 72 8 65 (by kernel_rfl) (by kernel_rfl) (by kernel_rfl) (by kernel_rfl) (by kernel_rfl) (by kernel_rfl) (fun _ _=>by kernel_rfl)
theorem tieP:Tryz.pinned.checked.prog.pinnedFits "unicode/utf8.first"=true:=by kernel_rfl
theorem tieU:Tryz.pinned.checked.prog.headLifts.contains "ownunsafe"=false:=by kernel_rfl
theorem tieF:Tryz.pinned.checked.prog.listedFits [("math/bits.deBruijn32tab",Rows.laid_math_bits_deBruijn32tab),("math/bits.deBruijn64tab",Rows.laid_math_bits_deBruijn64tab),("internal/strconv.uint64pow10",Rows.laid_internal_strconv_uint64pow10),("unicode/utf8.acceptRanges",Rows.laid_unicode_utf8_acceptRanges),("strconv.ErrRange",Rows.laid_strconv_ErrRange),("strconv.ErrSyntax",Rows.laid_strconv_ErrSyntax),("unicode/utf8.first",Rows.laid_unicode_utf8_first)]=true:=by
 unfold Program.listedFits;rw[tieU]
 kernel_rfl
theorem trees_tie:Rows.preludeTreesUptoRow.laidByTextAt .later Tryz.pinned [.data,.data,.data,.data,.sentinel,.sentinel,.pinned] true :=
 OpenClaim.laidByTextAt_pinned rfl rfl tieS rfl rfl rfl rfl (fun y hy _e=>by
  simp only[Rows.preludeTreesUptoRow,List.zip_cons_cons,List.zip_nil_right,List.mem_cons,List.mem_nil_iff,or_false] at hy;rcases hy with rfl|rfl|rfl|rfl|rfl|rfl|rfl
  ·cases _e
  ·cases _e
  ·cases _e
  ·cases _e
  ·cases _e
  ·cases _e
  ·exact ⟨tieP,by kernel_rfl⟩) tieF
end Go.Proofs.YtdkkaldimefljaaGreatDoor
end
section
namespace Go.Proofs.YtdkkaldimefljaaGreatDoor
open Go.Proofs.YtdkkaldimefljaaGreatDoor Go.AM Go.RowKit Go.ChangeShapes Go.WideShapes Go.ChangeAt
theorem od {H:Type} {enc:TypeId×Value→H} {P:Program} {f:Func} {s:ChangeSpec} {W W':World} {args:Array Value} {v:Value} {ds gs:List (DataW H)} {before pa pv:List MemPlace}
  (hW:DataW.Whole enc P f.params.toList s.vars false W args.toList ds gs before) (hb:Below W.heap.size W W')
  (hres:∀ (b:Nat) (sp:Nat→Bool) (hd:Bool),DataW.TrodAll enc P W' b sp hd f.resultTypes.toList (v.resultList f.resultTypes.size) (s.fn H (ds++gs)).results [])
  (hargs:∀ sp:Nat→Bool,(∀ p∈before,sp p.block=true)→DataW.TrodAll enc P W' 0 sp true f.params.toList args.toList (s.fn H (ds++gs)).args pa)
  (hvars:∀ sp:Nat→Bool,(∀ p∈before,sp p.block=true)→DataW.TrodVars enc P W' sp s.vars (s.fn H (ds++gs)).vars pv)
  (hps:before=pa++pv)
  (hok:∀ (j:Nat) (t:TypeId) (r:Value),f.resultTypes[j]?=some t→(v.resultList f.resultTypes.size)[j]?=some r→Value.okWide P W' .any 0 t r) :
  s.post enc P f false true false false W args v W':=by
 have hold:∀ p∈before,(fun b=>decide (b < W.heap.size)) p.block=true:=fun p hp=>by simpa using hW.lt p hp
 refine ⟨ds,gs,before,[],pa,pv,hW,hres _ _ _,hargs _ hold,hvars _ hold,hb.frame _,fun h=>?_⟩;cases h
theorem fk {W:World} {x:AVal} {v:Value} (h:Rd W [x] [v]):VRel (Psi W) [] x v:=(h.abs 0 x v rfl rfl).2.rel
set_option maxRecDepth 100000 in
theorem aAq (E:∀ B0,Env Tryz.prog ans B0 (@jS A1)) (H:Type) (enc:TypeId×Value→H) (W:World) (base:Nat) (args:Array Value) (ds gs:List (DataW H)) (before:List MemPlace)
  (hval:∀ (j:Nat) t v,Tryz.f3.params[j]?=some t→args[j]?=some v→Value.okWide Tryz.prog W .any base t v)
  (hW:DataW.Whole enc Tryz.prog Tryz.f3.params.toList Rows.preludeTreesSpec.vars false W args.toList ds gs before) (hk:Rows.uptoSmall H (ds++gs)=true) (hL:laidMetH Tryz.prog Rows.preludeTreesRow.laid W) (hsh:W.ShapedOpen Tryz.prog) :
  Calls Tryz.prog 3 args W fun e W'=>∃ v,e=.returned v∧Rows.preludeTreesSpec.post enc Tryz.prog Tryz.f3 false true false false W args v W':=by
 have hW':=hW;obtain ⟨p,q,hA0,hV,rfl,hfz,hnd⟩:=hW;have hA:DataW.TrodAll enc Tryz.prog W 0 (fun _=>true) true Tryz.f3.params.toList args.toList ds p:=hA0;rw[Tryz.params3] at hA hval;obtain ⟨v0,vs0,d0,ds0,p0,q0,hargs,rfl,rfl,h0,r0⟩:=trodAll_cons hA;obtain ⟨v1,vs1,d1,ds1,p1,q1,rfl,rfl,rfl,h1,r1⟩:=trodAll_cons r0;obtain ⟨rfl,rfl,rfl⟩:=trodAll_nil r1;obtain rfl:args=#[v0,v1]:=Array.toList_inj.1 hargs;obtain ⟨rfl,rfl⟩:=trodVars_none hV;have ok0:=hval 0 22 v0 (by kernel_rfl) (by simp);have ok1:=hval 1 3 v1 (by kernel_rfl) (by simp)
 have hc0:v0.cells=#[v0]:=by
  simp only[Value.okWide,Tryz.underlying22] at ok0;cases v0 <;> first|rfl|(exfalso;simp [Cell.okWide,Cell.ok,Tryz.underlying22] at ok0)
 have hc1:v1.cells=#[v1]:=by
  simp only[Value.okWide,Tryz.underlying3] at ok1;cases v1 <;> first|rfl|(exfalso;simp [Cell.okWide,Cell.ok,Tryz.underlying3] at ok1)
 have h0k:=h0;have h1k:=h1;obtain ⟨f0,h0⟩:=h0;obtain ⟨f1,h1⟩:=h1;rw[hc0] at h0;rw[hc1] at h1;obtain ⟨l,hr0,hb0⟩:=aH8 f0 _ _ h0;obtain ⟨n,hn1,_,hr1,hb1⟩:=aFe Tryz.underlying3 h1;clear hA0;simp only[List.append_nil] at hW' hk;have hsm:Rows.uptoBulkAll [d0,d1]≤1048576:=of_decide_eq_true hk;simp only[Rows.uptoBulkAll] at hsm;simp only at hb0 hb1;have hc:=qk l n (by simp only[big];omega) ⟨[],0⟩ (Nat.le_refl _)
 have hpre:eA ans W.heap.size W (Psi W) [] (fun _=>none) [.val (.slice (l.map iH)),.val (.int .i64 n)] #[v0,v1] ⟨[],0⟩:=by
  refine ⟨wsat (size8 hL),Nat.le_refl _,fun b h=>absurd rfl h,rfl,fun s hs=>?_,fun i s hi=>?_,⟨rfl,fun i o h=>by simp at h⟩,Nat.le_refl _⟩
  ·simp at hs;rcases hs with rfl|rfl <;> rfl
  ·match i,hi with
   |0,hi=>cases hi;exact .val _ _ (fk hr0)
   |1,hi=>cases hi;exact .val _ _ (fk hr1)
 refine (yi (E W.heap.size) rfl hc hpre).mono fun e W' h=>?_
 obtain ⟨Ψ',ρ',ow',hfr,_,v,rfl,hs⟩:=h
 have hv:v=.bool true:=by
  cases hs with
  |val x v h=>cases h;rfl
 subst hv;have hbel:=mq hfr;have hlt:∀ x∈p0++(p1++[]),x.block < W.heap.size:=fun x hx=>hW'.lt x (by simpa using hx)
 refine ⟨_,rfl,od (pa:=p0++(p1++[])) (pv:=[]) hW' hbel (fun _ _ _=>trodAll_cons_mk (shut_bool Tryz.underlying4 _) trodAll_mk0) (fun sp hsp=>?_) (fun _ _=>rfl) (by simp) (ok_one (by kernel_rfl) rfl (okWide_bool_mk Tryz.underlying4 _))⟩
 exact trodAll_cons_mk (WideElems.Trod_stays laidOut (by kernel_rfl) (of_decide_eq_true (by kernel_rfl)) h0k (fun x hx=>hbel.same (hlt x (by simp [hx]))) (fun x hx=>hsp x (by simp [hx])))
  (trodAll_cons_mk (WideElems.Trod_stays laidOut (by kernel_rfl) (of_decide_eq_true (by kernel_rfl)) h1k (fun x hx=>hbel.same (hlt x (by simp [hx]))) (fun x hx=>hsp x (by simp [hx])))
   trodAll_mk0)
end Go.Proofs.YtdkkaldimefljaaGreatDoor
end
