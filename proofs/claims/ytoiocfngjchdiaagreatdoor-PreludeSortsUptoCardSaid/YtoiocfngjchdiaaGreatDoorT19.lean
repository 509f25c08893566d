import Derived.Test.YtoiocfngjchdiaaGreatDoorT01
import Derived.Deep.Strs
import Derived.Lib.LaidTab
import Derived.Shelf.Vars
import Derived.OpenShut
import Derived.Test.YtoiocfngjchdiaaGreatDoorCards
import Derived.SevenTiedAt
import Derived.LaidOnce
import Derived.ProofKit
import Derived.Deep.DeepWitnessRowRef
import Derived.Lib.LaidIn
set_option linter.all false
set_option maxRecDepth 100000
set_option maxHeartbeats 8000000
namespace Go.Proofs.YtoiocfngjchdiaaGreatDoor
section
open Go.Proofs.YtoiocfngjchdiaaGreatDoor Go.AM
inductive ni (W:World):ae->Value->Prop
 |int (k:IntKind) (n:Int):ni W (.int k n) (.int k n)
 |str (s:ByteArray):ni W (.str s.data.toList) (.string s)
 |nil:ni W (.slice []) (.slice none 0 0)
 |ko (v:Value) (h:v=.nilIface\/∃t x,v=.iface t x):ni W .ko v
 |slice (xs:List ae) (b o len cap s:Nat) (sp:Option Nat) (vs:Nat->Nat->Value) (hl:xs.length=len) (hc:len<=cap) (hp:xs≠[]->sp=none) (hs:∀(i:Nat)(x:ae),xs[i]?=some x->x.cells.length=s)
   (hf:∀(i:Nat)(x:ae)(j:Nat)(c:ae),xs[i]?=some x->x.cells[j]?=some c->flat c=true/\W.cell? ⟨b,o+i*s+j,none⟩=some (vs i j))
   (hx:∀(i:Nat)(x:ae)(j:Nat)(c:ae),xs[i]?=some x->x.cells[j]?=some c->ni W c (vs i j)):ni W (.slice xs) (.slice (some ⟨b,o,sp⟩) len cap)
def Sw(W:World):HT:=λb o c=>flat c=true/\∃v,W.cell? ⟨b,o,none⟩=some v/\ni W c v
theorem ni.rel{W:World}{J:List Nat}{c:ae}{v:Value}(h:ni W c v):am (Sw W) J c v:=by
 induction h with
 |int k n=>exact .int k n
 |str s =>
  have:s=⟨⟨s.data.toList⟩⟩:=by cases s;simp
  rw[this];exact .str _
 |nil=>exact .slice [] none 0 0 0 rfl (Ae _) (λi x e=>by simp at e)
 |ko v h=>exact .ko v h
 |slice xs b o len cap s sp vs hl hc hp hs hf hx ih =>
  refine .slice xs _ len cap s hl hc λi x e=>⟨hs i x e,b,o,?_,λj c hj=>⟨(hf i x j c e hj).1,_,(hf i x j c e hj).2,hx i x j c e hj⟩⟩
  rw[hp (λh=>by rw[h] at e;simp at e)]
structure Rd (W:World) (xs:List ae) (vs:List Value):Prop where
 len:xs.length=vs.length
 abs:∀(j:Nat)(c:ae)(v:Value),xs[j]?=some c->vs[j]?=some v->flat c=true/\ni W c v
theorem Rd.one{W:World}{c:ae}{v:Value}(hf:flat c=true)(h:ni W c v):Rd W [c] [v]:=⟨rfl,λj x u hx hu=>by
 cases j with
 |zero=>simp at hx hu;subst hx;subst hu;exact⟨hf,h⟩
 |succ j=>simp at hx⟩
theorem Rd.append{W:World}{a b:List ae}{u v:List Value}(h:Rd W a u)(k:Rd W b v):Rd W (a++b) (u++v):=⟨by simp[h.len,k.len],λj c x hc hx=>by
 rw[Cg] at hc hx;rw[h.len] at hc
 split at hc
 ·rename_i hj;rw[Br hj] at hx;exact h.abs j c x hc hx
 ·rename_i hj;rw[Bf hj] at hx;exact k.abs _ c x hc hx⟩
section
variable {H:Type}{enc:TypeId×Value->H}{W:World}{sp:Nat->Bool}{hd:Bool}
noncomputable abbrev rd(enc:TypeId×Value->H)(W:World)(sp:Nat->Bool)(hd:Bool)(n:Nat)(t:TypeId)(cs:List Value):=DataW.trod enc Tryz.prog W 0 sp hd n t cs
theorem aTl{n t k}(ht:Tryz.prog.underlying t=some (.int k)){cs:List Value}{x}(h:rd enc W sp hd n t cs=some x):∃z:Int,cs=[.int k z]/\(Lit.int k z).wf=true/\Rd W [.int k z] cs/\1<=Rows.uptoBulk x.1:=by
 obtain⟨z,rfl,rfl,hw⟩:=DataW.trod_int ht h;exact⟨z,rfl,hw,.one rfl (.int _ _),by simp[Rows.uptoBulk]⟩
def JB{α:Type}(sz:α->Nat):List α->Nat
 |[]=>0
 |a::l=>sz a+1+JB sz l
theorem a3l{α:Type}(sz:α->Nat):∀a b:List α,JB sz (a++b)=JB sz a+JB sz b
 |[],b=>by simp[JB]
 |x::a,b=>by simp only[Cw,JB,a3l sz a b];omega
theorem a1u{H:Type}:∀l r:List (DataW H),Rows.uptoBulkAll (l++r)=Rows.uptoBulkAll l+Rows.uptoBulkAll r
 |[],r=>by simp[Rows.uptoBulkAll]
 |x::l,r=>by simp only[Cw,Rows.uptoBulkAll,a1u l r];omega
theorem aH9{α:Type}(en:α->ae)(sz:α->Nat){n t e s:Nat}(ht:Tryz.prog.underlying t=some (.slice e))(hs:Tryz.prog.cellsOf e=s)(G4:0<s)(I4:∀a,(en a).cells.length=s){cs:List Value}{x}
  (ih:∀m,m<n->∀cs x,rd enc W sp hd m e cs=some x->∃a:α,Rd W (en a).cells cs/\sz a+1<=Rows.uptoBulk x.1)
  (h:rd enc W sp hd n t cs=some x):∃l:List α,Rd W [.slice (l.map en)] cs/\JB sz l+1<=Rows.uptoBulk x.1:=by
 rcases DataW.trod_slice ht h with⟨rfl,rfl⟩|⟨a,len,cap,elems,rest,m,rfl,rfl,rfl,hb,PQ,Rm,KG,hE,_,_⟩
 ·exact⟨[],.one rfl .nil,by simp[JB,Rows.uptoBulk]⟩
 ·have build:∀k,k<=len->∃l:List α,l.length=k/\(∀(i:Nat)(a0:α),l[i]?=some a0->∃BX,W.cells? 0 (a.add (i*s)) s=some BX/\Rd W (en a0).cells BX)/\JB sz l<=Rows.uptoBulkAll ((elems.take k).map (·.1)):=by
   intro k;induction k with
   |zero=>intro _;exact⟨[],rfl,λi a0 e=>by simp at e,by simp[JB]⟩
   |succ k ihk =>
    intro hk;obtain⟨l,l1,l2,l3⟩:=ihk (by omega);have h1:=hE k (by omega);have Rr:k<elems.length:=by omega
    rw[Bv Rr] at h1;obtain⟨BX,g1,g2⟩:=Da.1 h1;obtain⟨a0,k1,k2⟩:=ih m (by omega) BX _ g2;refine⟨l++[a0],by simp[l1],λi b0 e=>?_,?_⟩
    ·rw[Cg] at e
     split at e
     ·exact l2 i b0 e
     ·rename_i hi
      have PV:i=k:=by
       have:=(Ab.1 e).1
       simp at this;omega
      subst PV;simp[l1] at e;subst e;exact⟨BX,by rw[<-hs];exact g1,k1⟩
    ·rw[List.take_add_one,Bv Rr]
     simp only[Option.toList_some,Fa,Ba,Av,a1u,a3l];simp only[JB,Rows.uptoBulkAll];omega
  obtain⟨l,l1,l2,l3⟩:=build len (Ae _);rw[Bz (by omega)] at l3;refine⟨l,?_,by simp only[Rows.uptoBulk];omega⟩
  have CY:∀(i:Nat)(a0:α)(j:Nat)(c:ae),l[i]?=some a0->(en a0).cells[j]?=some c->∃v,W.cell? (a.add (i*s+j))=some v/\flat c=true/\ni W c v:=λi a0 j c h1 h2=>by
   obtain⟨BX,g1,g2⟩:=l2 i a0 h1;obtain⟨_,g3,g4⟩:=World.cells?_some g1;have hj:j<s:=by rw[<-I4 a0];exact(Ab.1 h2).1
   have YM:j<BX.length:=by omega
   have h5:=g4 j hj;rw[Addr.add_add,Bv YM] at h5;have h6:=g2.abs j c _ h2 (Bv YM);exact⟨_,h5,h6.1,h6.2⟩
  obtain⟨b,o,X1⟩:=a
  have xd:l.map en≠[]->X1=none:=λBA=>by
   cases l with
   |nil=>exact absurd rfl BA
   |cons a0 l =>
    have h0:0<(en a0).cells.length:=by rw[I4];exact G4
    obtain⟨v,h1,_⟩:=CY 0 a0 0 _ rfl (Bv h0)
    have:=World.cell?_spot h1
    simpa[Addr.add] using this
  refine .one rfl (.slice (l.map en) b o len cap s X1 (λi j=>(W.cell? ⟨b,o+i*s+j,none⟩).getD undef) (by simp[l1]) PQ xd (λi x e=>?_) (λi x j c e hj=>?_) (λi x j c e hj=>?_))
  all_goals
   rw[Aw,Aq] at e;obtain⟨a0,e1,rfl⟩:=e
  ·exact I4 a0
  ·obtain⟨v,h1,h2,_⟩:=CY i a0 j c e1 hj
   have Hi:=xd (λh=>by have:=List.map_eq_nil_iff.1 h;subst this;simp at e1);subst Hi;rw[Go.WideShapes.add_plain,<-De] at h1;exact⟨h2,by rw[h1];rfl⟩
  ·obtain⟨v,h1,_,h3⟩:=CY i a0 j c e1 hj
   have Hi:=xd (λh=>by have:=List.map_eq_nil_iff.1 h;subst this;simp at e1);subst Hi;rw[Go.WideShapes.add_plain,<-De] at h1;rw[h1];exact h3
theorem k3:Tryz.prog.cellsOf 3=1:=by kernel_rfl
theorem a2e:∀l:List Int,JB (λ_:Int=>0) l=l.length
 |[]=>rfl
 |t::l=>by simp only[JB,Ak,a2e l];omega
theorem aO1(n:Nat)(cs:List Value)(x:DataW H×List MemPlace)(h:rd enc W sp hd n 43 cs=some x):∃l:List Int,Rd W [.slice (l.map fO)] cs/\l.length+1<=Rows.uptoBulk x.1:=by
 obtain⟨l,r,b⟩:=aH9 fO (λ_=>0) Tryz.underlying43 k3 (by omega) (λa=>rfl) (λm' _ cs x h=>by
  obtain⟨z,_,_,r1,b1⟩:=aTl Tryz.underlying3 h;exact⟨z,r1,by omega⟩) h
 rw[a2e] at b;exact⟨l,r,b⟩
end
end
section
open Go.Proofs.YtoiocfngjchdiaaGreatDoor Go.AM Go.RowKit
theorem a3w{P:Program}{W:World}:∀{l:List (String×DataW Unit)}{ps:List MemPlace},DataW.LaidVars P W l ps->∀(i:Nat)(n:String)(d:DataW Unit),l[i]?=some (n,d) ->
  ∃g t cs fuel p,P.globalNamed n=some g/\(P.globals[g]?).map (·.type)=some t/\W.var? P n=some cs/\DataW.trod (λ_=>()) P W 0 (λ_=>true) false fuel t cs.toList=some (d,p)
 |(m,e)::r,ps,h,i,n,d,hi=>by
  obtain⟨g,t,cs,fuel,p,q,h1,h2,h3,h4,h5,_⟩:=h;cases i with
  |zero=>simp at hi;obtain⟨rfl,rfl⟩:=hi;exact⟨g,t,cs,fuel,p,h1,h2,h3,h4⟩
  |succ i=>exact a3w h5 i n d (by simpa using hi)
theorem a5D:Tryz.prog.globalNamed "math/bits.deBruijn64tab"=some 7:=by kernel_rfl
theorem kS{W:World}(hl:laidMet Tryz.prog Rows.preludeSortsRow.laid W):8<=W.heap.size:=by
 obtain⟨ps,h,_⟩:=hl;obtain⟨g,t,cs,fuel,p,h1,h2,h3,h4⟩:=a3w h 1 "math/bits.deBruijn64tab" _ rfl;obtain rfl:=Bp (a5D.symm.trans h1);simp only[World.var?,h1,Ar] at h3
 split at h3
 ·rename_i hh
  have:=(An.1 hh).1
  omega
 ·cases h3
theorem b_{W:World}(h:8<=W.heap.size):c_ (Sw W) W:=⟨h,λb o c ⟨h1,v,h2,h3⟩=>⟨h1,v,h2,h3.rel⟩⟩
theorem a6g{W w':World}{Ψ Z':HT}{AO:Own}(h:Fr W Ψ (λ_=>none) w' Z' AO):Below W.heap.size W w':=⟨h.os,h.tape,h.output,h.size,λk hk=>(h.keep k hk rfl).1⟩
end
section
open Go.Proofs.YtoiocfngjchdiaaGreatDoor Go.AM Go.RowKit Go.Lib
theorem Zk:ownKnob Tryz.prog.godebug=none:=by kernel_rfl
theorem laidOut:laidOutB Tryz.prog=true:=by kernel_rfl
def z7:Nat->DataW Unit->List Value
 |0,_=>[]
 |_+1,.lit (.int k z)=>[.int k z]
 |n+1,.agg l=>l.flatMap (z7 n)
 |_,_=>[]
noncomputable def N0:Nat:=(World.settled Tryz.prog default).heap.size
noncomputable def gR(os:Os):World :=
 let N:=(World.settled Tryz.prog os).heap.size
 let w0:=World.holding Tryz.prog os ⟨#[.cells #[.string ⟨#[118,97,108,117,101,32,111,117,116,32,111,102,32,114,97,110,103,101]⟩] 389,.cells #[.string ⟨#[105,110,118,97,108,105,100,32,115,121,110,116,97,120]⟩] 389],#[],[]⟩
 let put (h:Array Obj) (g:Nat) (cs:Array Value):Array Obj:=h.modify g fun
  |.cells _ t frozen=>.cells cs t frozen
  |o=>o
 let h1:=put w0.heap 1 #[.iface 387 (.pointer (some ⟨N+1,0,none⟩))]
 let h2:=put h1 2 #[.iface 387 (.pointer (some ⟨N,0,none⟩))]
 let h3:=put h2 3 (z7 3 Rows.laid_unicode_utf8_first).toArray
 let h4:=put h3 4 (z7 3 (Rows.laid_unicode_utf8_acceptRanges (H:=Unit))).toArray
 let h5:=put h4 5 (z7 3 (Rows.laid_internal_strconv_uint64pow10 (H:=Unit))).toArray
 let h6:=put h5 6 (z7 3 (Rows.laid_math_bits_deBruijn32tab (H:=Unit))).toArray
 let h7:=put h6 7 (z7 3 (Rows.laid_math_bits_deBruijn64tab (H:=Unit))).toArray
 { w0 with heap:=h7 }
theorem a1B(os:Os)(args:Array Value):laidMet Tryz.prog Rows.preludeSortsRow.laid ((gR os).forCall (λ_ _=>0) ⟨#[],args,[]⟩).memory :=
 (LaidIn.of_run [1,2,3,4,5,6,7,N0,N0+1] 8 (by kernel_rfl) (by kernel_rfl) (by kernel_rfl) (by kernel_rfl)).met
theorem aXI:Tryz.prog.laidByTextLater [("math/bits.deBruijn32tab",Rows.laid_math_bits_deBruijn32tab),("math/bits.deBruijn64tab",Rows.laid_math_bits_deBruijn64tab),("internal/strconv.uint64pow10",Rows.laid_internal_strconv_uint64pow10),("unicode/utf8.acceptRanges",Rows.laid_unicode_utf8_acceptRanges),("strconv.ErrRange",Rows.laid_strconv_ErrRange),("strconv.ErrSyntax",Rows.laid_strconv_ErrSyntax)] [.data,.data,.data,.data,.sentinel,.sentinel] true :=
 Program.laidByTextLater_by_one 72 8 65 (by kernel_rfl) (by kernel_rfl) (by kernel_rfl) (by kernel_rfl) (by kernel_rfl) (by kernel_rfl) (λ_ _=>by kernel_rfl)
theorem aXH:Tryz.pinned.checked.prog.pinnedFits "unicode/utf8.first"=true:=by kernel_rfl
theorem aXJ:Tryz.pinned.checked.prog.headLifts.contains "ownunsafe"=false:=by kernel_rfl
theorem aXG:Tryz.pinned.checked.prog.listedFits [("math/bits.deBruijn32tab",Rows.laid_math_bits_deBruijn32tab),("math/bits.deBruijn64tab",Rows.laid_math_bits_deBruijn64tab),("internal/strconv.uint64pow10",Rows.laid_internal_strconv_uint64pow10),("unicode/utf8.acceptRanges",Rows.laid_unicode_utf8_acceptRanges),("strconv.ErrRange",Rows.laid_strconv_ErrRange),("strconv.ErrSyntax",Rows.laid_strconv_ErrSyntax),("unicode/utf8.first",Rows.laid_unicode_utf8_first)]=true:=by
 unfold Program.listedFits;rw[aXJ]
 kernel_rfl
theorem a0p:Rows.preludeSortsUptoRow.laidByTextAt .later Tryz.pinned [.data,.data,.data,.data,.sentinel,.sentinel,.pinned] true :=
 OpenClaim.laidByTextAt_pinned rfl rfl aXI rfl rfl rfl rfl (λy hy _e=>by
  simp only[Rows.preludeSortsUptoRow,List.zip_cons_cons,List.zip_nil_right,As,List.mem_nil_iff,Ep] at hy;rcases hy with rfl|rfl|rfl|rfl|rfl|rfl|rfl
  ·cases _e
  ·cases _e
  ·cases _e
  ·cases _e
  ·cases _e
  ·cases _e
  ·exact⟨aXH,by kernel_rfl⟩) aXG
end
end Go.Proofs.YtoiocfngjchdiaaGreatDoor
