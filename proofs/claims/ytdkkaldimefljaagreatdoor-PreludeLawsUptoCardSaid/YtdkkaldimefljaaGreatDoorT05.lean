import Derived.Test.YtdkkaldimefljaaGreatDoorT04
import Derived.Deep.Strs
import Derived.OpenShut
import Derived.Test.YtdkkaldimefljaaGreatDoorCards
import Derived.SevenTiedAt
import Derived.LaidOnce
import Derived.ProofKit
import Derived.Deep.DeepWitnessRowRef
import Derived.Lib.LaidIn
set_option linter.all false
set_option maxRecDepth 100000
namespace Go.Proofs.YtdkkaldimefljaaGreatDoor
section
open Go.Proofs.YtdkkaldimefljaaGreatDoor Go.AM
inductive CAbs (W:World):AVal->Value->Prop
 |int (k:IntKind) (n:Int):CAbs W (.int k n) (.int k n)
 |str (s:ByteArray):CAbs W (.str s.data.toList) (.string s)
 |nil:CAbs W (.slice []) (.slice none 0 0)
 |opq (v:Value) (h:v=.nilIface\/∃t x,v=.iface t x):CAbs W .opq v
 |slice (xs:List AVal) (b o len cap s:Nat) (sp:Option Nat) (vs:Nat->Nat->Value) (hl:xs.length=len) (hc:len<=cap) (hp:xs≠[]->sp=none) (hs:∀(i:Nat)(x:AVal),xs[i]?=some x->x.cells.length=s)
   (hf:∀(i:Nat)(x:AVal)(j:Nat)(c:AVal),xs[i]?=some x->x.cells[j]?=some c->flat c=true/\W.cell? ⟨b,o+i*s+j,none⟩=some (vs i j))
   (hx:∀(i:Nat)(x:AVal)(j:Nat)(c:AVal),xs[i]?=some x->x.cells[j]?=some c->CAbs W c (vs i j)):CAbs W (.slice xs) (.slice (some ⟨b,o,sp⟩) len cap)
def O0(W:World):HT:=λb o c=>flat c=true/\∃v,W.cell? ⟨b,o,none⟩=some v/\CAbs W c v
theorem CAbs.rel{W:World}{J:List Nat}{c:AVal}{v:Value}(h:CAbs W c v):VRel (O0 W) J c v:=by
 induction h with
 |int k n=>exact .int k n
 |str s =>
  have:s=⟨⟨s.data.toList⟩⟩:=by cases s;simp
  rw[this];exact .str _
 |nil=>exact .slice [] none 0 0 0 rfl (Ae _) (λi x e=>by simp at e)
 |opq v h=>exact .opq v h
 |slice xs b o len cap s sp vs hl hc hp hs hf hx ih =>
  refine .slice xs _ len cap s hl hc λi x e=>⟨hs i x e,b,o,?_,λj c hj=>⟨(hf i x j c e hj).1,_,(hf i x j c e hj).2,hx i x j c e hj⟩⟩
  rw[hp (λh=>by rw[h] at e;simp at e)]
structure Rd (W:World) (xs:List AVal) (vs:List Value):Prop where
 len:xs.length=vs.length
 abs:∀(j:Nat)(c:AVal)(v:Value),xs[j]?=some c->vs[j]?=some v->flat c=true/\CAbs W c v
theorem Rd.one{W:World}{c:AVal}{v:Value}(hf:flat c=true)(h:CAbs W c v):Rd W [c] [v]:=⟨rfl,λj x u hx hu=>by
 cases j with
 |zero=>simp at hx hu;subst hx;subst hu;exact⟨hf,h⟩
 |succ j=>simp at hx⟩
theorem Rd.append{W:World}{a b:List AVal}{u v:List Value}(h:Rd W a u)(k:Rd W b v):Rd W (a++b) (u++v):=⟨by simp[h.len,k.len],λj c x hc hx=>by
 rw[Cf] at hc hx;rw[h.len] at hc
 split at hc
 ·rename_i hj;rw[Bo hj] at hx;exact h.abs j c x hc hx
 ·rename_i hj;rw[Ax hj] at hx;exact k.abs _ c x hc hx⟩
section
variable {H:Type}{enc:TypeId×Value->H}{W:World}{sp:Nat->Bool}{hd:Bool}
noncomputable abbrev rd(enc:TypeId×Value->H)(W:World)(sp:Nat->Bool)(hd:Bool)(n:Nat)(t:TypeId)(cs:List Value):=DataW.trod enc Tryz.prog W 0 sp hd n t cs
theorem aJ3{n t k}(ht:Tryz.prog.underlying t=some (.int k)){cs:List Value}{x}(h:rd enc W sp hd n t cs=some x):∃z:Int,cs=[.int k z]/\(Lit.int k z).wf=true/\Rd W [.int k z] cs/\1<=Rows.uptoBulk x.1:=by
 obtain⟨z,rfl,rfl,hw⟩:=DataW.trod_int ht h;exact⟨z,rfl,hw,.one rfl (.int _ _),by simp[Rows.uptoBulk]⟩
theorem rdStr{n t}(ht:Tryz.prog.underlying t=some .string){cs:List Value}{x}(h:rd enc W sp hd n t cs=some x):∃s:List UInt8,Rd W [.str s] cs/\s.length+1<=Rows.uptoBulk x.1:=by
 obtain⟨s,rfl,rfl,_⟩:=DataW.trod_string ht h;exact⟨s.data.toList,.one rfl (.str _),by simp[Rows.uptoBulk]⟩
def Ic{α:Type}(sz:α->Nat):List α->Nat
 |[]=>0
 |a::l=>sz a+1+Ic sz l
theorem af{α:Type}(sz:α->Nat):∀a b:List α,Ic sz (a++b)=Ic sz a+Ic sz b
 |[],b=>by simp[Ic]
 |x::a,b=>by simp only[Dl,Ic,af sz a b];omega
theorem nF{H:Type}:∀l r:List (DataW H),Rows.uptoBulkAll (l++r)=Rows.uptoBulkAll l+Rows.uptoBulkAll r
 |[],r=>by simp[Rows.uptoBulkAll]
 |x::l,r=>by simp only[Dl,Rows.uptoBulkAll,nF l r];omega
theorem aBb{α:Type}(en:α->AVal)(sz:α->Nat){n t e s:Nat}(ht:Tryz.prog.underlying t=some (.slice e))(hs:Tryz.prog.cellsOf e=s)(GX:0<s)(JI:∀a,(en a).cells.length=s){cs:List Value}{x}
  (ih:∀m,m<n->∀cs x,rd enc W sp hd m e cs=some x->∃a:α,Rd W (en a).cells cs/\sz a+1<=Rows.uptoBulk x.1)
  (h:rd enc W sp hd n t cs=some x):∃l:List α,Rd W [.slice (l.map en)] cs/\Ic sz l+1<=Rows.uptoBulk x.1:=by
 rcases DataW.trod_slice ht h with⟨rfl,rfl⟩|⟨a,len,cap,elems,rest,m,rfl,rfl,rfl,hb,MJ,S7,GD,hE,_,_⟩
 ·exact⟨[],.one rfl .nil,by simp[Ic,Rows.uptoBulk]⟩
 ·have build:∀k,k<=len->∃l:List α,l.length=k/\(∀(i:Nat)(a0:α),l[i]?=some a0->∃BZ,W.cells? 0 (a.add (i*s)) s=some BZ/\Rd W (en a0).cells BZ)/\Ic sz l<=Rows.uptoBulkAll ((elems.take k).map (·.1)):=by
   intro k;induction k with
   |zero=>intro _;exact⟨[],rfl,λi a0 e=>by simp at e,by simp[Ic]⟩
   |succ k ihk =>
    intro hk;obtain⟨l,l1,l2,l3⟩:=ihk (by omega);have h1:=hE k (by omega);have Sb:k<elems.length:=by omega
    rw[Bf Sb] at h1;obtain⟨BZ,g1,g2⟩:=Ch.1 h1;obtain⟨a0,k1,k2⟩:=ih m (by omega) BZ _ g2;refine⟨l++[a0],by simp[l1],λi b0 e=>?_,?_⟩
    ·rw[Cf] at e
     split at e
     ·exact l2 i b0 e
     ·rename_i hi
      have Pd:i=k:=by
       have:=(Ab.1 e).1
       simp at this;omega
      subst Pd;simp[l1] at e;subst e;exact⟨BZ,by rw[<-hs];exact g1,k1⟩
    ·rw[List.take_add_one,Bf Sb]
     simp only[Option.toList_some,Ei,Aw,Au,nF,af];simp only[Ic,Rows.uptoBulkAll];omega
  obtain⟨l,l1,l2,l3⟩:=build len (Ae _);rw[Ci (by omega)] at l3;refine⟨l,?_,by simp only[Rows.uptoBulk];omega⟩
  have CG:∀(i:Nat)(a0:α)(j:Nat)(c:AVal),l[i]?=some a0->(en a0).cells[j]?=some c->∃v,W.cell? (a.add (i*s+j))=some v/\flat c=true/\CAbs W c v:=λi a0 j c h1 h2=>by
   obtain⟨BZ,g1,g2⟩:=l2 i a0 h1;obtain⟨_,g3,g4⟩:=World.cells?_some g1;have hj:j<s:=by rw[<-JI a0];exact(Ab.1 h2).1
   have hjc:j<BZ.length:=by omega
   have h5:=g4 j hj;rw[Addr.add_add,Bf hjc] at h5;have h6:=g2.abs j c _ h2 (Bf hjc);exact⟨_,h5,h6.1,h6.2⟩
  obtain⟨b,o,Zp⟩:=a
  have hspot:l.map en≠[]->Zp=none:=λBD=>by
   cases l with
   |nil=>exact absurd rfl BD
   |cons a0 l =>
    have h0:0<(en a0).cells.length:=by rw[JI];exact GX
    obtain⟨v,h1,_⟩:=CG 0 a0 0 _ rfl (Bf h0)
    have:=World.cell?_spot h1
    simpa[Addr.add] using this
  refine .one rfl (.slice (l.map en) b o len cap s Zp (λi j=>(W.cell? ⟨b,o+i*s+j,none⟩).getD undef) (by simp[l1]) MJ hspot (λi x e=>?_) (λi x j c e hj=>?_) (λi x j c e hj=>?_))
  all_goals
   rw[Ao,Al] at e;obtain⟨a0,e1,rfl⟩:=e
  ·exact JI a0
  ·obtain⟨v,h1,h2,_⟩:=CG i a0 j c e1 hj
   have Ik:=hspot (λh=>by have:=Gk.1 h;subst this;simp at e1);subst Ik;rw[Go.WideShapes.add_plain,<-De] at h1;exact⟨h2,by rw[h1];rfl⟩
  ·obtain⟨v,h1,_,h3⟩:=CG i a0 j c e1 hj
   have Ik:=hspot (λh=>by have:=Gk.1 h;subst this;simp at e1);subst Ik;rw[Go.WideShapes.add_plain,<-De] at h1;rw[h1];exact h3
theorem vz{α:Type}(cs:List α)(a b c:Nat)(h:cs.length=a+b+c):cs=(cs.drop 0).take a++((cs.drop a).take b++(cs.drop (a+b)).take c):=by
 rw[Ee,Ci (l:=cs.drop (a+b)) (by simp;omega)]
 have:(cs.drop a).take b++cs.drop (a+b)=cs.drop a:=by rw[<-Gi,Dg]
 rw[this,Dg]
theorem zq:∀l:List VaD,Ic VaD.size l=VaD.sizes l
 |[]=>rfl
 |t::l=>by simp only[Ic,VaD.sizes,zq l]
theorem oG{α:Type}(cs:List α)(a b:Nat):(cs.drop a).take b++cs.drop (a+b)=cs.drop a:=by rw[<-Gi,Dg]
theorem k35:Tryz.prog.cellsOf 35=4:=by kernel_rfl
theorem VG:Tryz.prog.cellsOf 27=3:=by kernel_rfl
theorem k9:Tryz.prog.cellsOf 9=1:=by kernel_rfl
theorem k3:Tryz.prog.cellsOf 3=1:=by kernel_rfl
theorem SQ:Tryz.prog.cellsOf 25=1:=by kernel_rfl
theorem aRG:∀(n:Nat)(cs:List Value)(x:DataW H×List MemPlace),rd enc W sp hd n 27 cs=some x->∃p:VaD,Rd W p.enc.cells cs/\p.size+1<=Rows.uptoBulk x.1:=by
 intro n;induction n using Nat.strongRecOn with
 |ind n ih =>
  intro cs x h;obtain⟨xs,m,rfl,rfl,hl,hlen,hf⟩:=DataW.trod_struct Tryz.underlying27 h
  match xs,hlen with
  |[y0,y1,y2],_ =>
   have h0:rd enc W sp hd m 9 ((cs.drop 0).take (Tryz.prog.cellsOf 9))=some y0:=hf 0 _ rfl;rw[k9] at h0;have h1:rd enc W sp hd m 3 ((cs.drop 1).take (Tryz.prog.cellsOf 3))=some y1:=hf 1 _ rfl;rw[k3] at h1;have h2:rd enc W sp hd m 25 ((cs.drop 2).take (Tryz.prog.cellsOf 25))=some y2:=hf 2 _ rfl;rw[SQ] at h2;obtain⟨s,r0,b0⟩:=rdStr Tryz.underlying9 h0;obtain⟨z,_,_,r1,b1⟩:=aJ3 Tryz.underlying3 h1;obtain⟨l,r2,b2⟩:=aBb VaD.enc VaD.size Tryz.underlying25 VG (by omega) (λa=>by rw[a.enc_eq];rfl) (λm' hm=>ih m' (by omega)) h2;rw[VG] at hl;rw[zq] at b2;refine⟨.mk s z l,?_,?_⟩
   ·have:=r0.append (r1.append r2)
    rw[<-vz cs 1 1 1 hl] at this;rw[VaD.enc_mk];exact this
   ·simp only[VaD.size,Aw,Au,Rows.uptoBulk,Rows.uptoBulkAll];omega
theorem Y3(n:Nat)(cs:List Value)(x:DataW H×List MemPlace)(h:rd enc W sp hd n 25 cs=some x):∃l:List VaD,Rd W [.slice (l.map VaD.enc)] cs/\VaD.sizes l+1<=Rows.uptoBulk x.1:=by
 obtain⟨l,r,b⟩:=aBb VaD.enc VaD.size Tryz.underlying25 VG (by omega) (λa=>by rw[a.enc_eq];rfl) (λm' _=>aRG m') h;rw[zq] at b;exact⟨l,r,b⟩
def lists(A B C:List VaD)(N:Int):AVal:=.agg [.slice (A.map VaD.enc),.slice (B.map VaD.enc),.slice (C.map VaD.enc),.int .i64 N]
theorem aIC(n:Nat)(cs:List Value)(x:DataW H×List MemPlace)(h:rd enc W sp hd n 35 cs=some x):∃A B C N,Rd W (lists A B C N).cells cs/\VaD.sizes A+VaD.sizes B+VaD.sizes C<=Rows.uptoBulk x.1:=by
 obtain⟨xs,m,rfl,rfl,hl,hlen,hf⟩:=DataW.trod_struct Tryz.underlying35 h
 match xs,hlen with
 |[y0,y1,y2,y3],_ =>
  have h0:rd enc W sp hd m 25 ((cs.drop 0).take (Tryz.prog.cellsOf 25))=some y0:=hf 0 _ rfl;rw[SQ] at h0;have h1:rd enc W sp hd m 25 ((cs.drop 1).take (Tryz.prog.cellsOf 25))=some y1:=hf 1 _ rfl;rw[SQ] at h1;have h2:rd enc W sp hd m 25 ((cs.drop 2).take (Tryz.prog.cellsOf 25))=some y2:=hf 2 _ rfl;rw[SQ] at h2;have h3:rd enc W sp hd m 3 ((cs.drop 3).take (Tryz.prog.cellsOf 3))=some y3:=hf 3 _ rfl;rw[k3] at h3;obtain⟨A,r0,b0⟩:=Y3 _ _ _ h0;obtain⟨B,r1,b1⟩:=Y3 _ _ _ h1;obtain⟨C,r2,b2⟩:=Y3 _ _ _ h2;obtain⟨N,_,_,r3,b3⟩:=aJ3 Tryz.underlying3 h3;rw[k35] at hl;refine⟨A,B,C,N,?_,?_⟩
  ·have:=r0.append (r1.append (r2.append r3))
   rw[Ci (l:=cs.drop 3) (by simp;omega),oG cs 2 1,oG cs 1 1,oG cs 0 1,Ee] at this;exact this
  ·simp only[Aw,Au,Rows.uptoBulk,Rows.uptoBulkAll];omega
end
end
section
open Go.Proofs.YtdkkaldimefljaaGreatDoor Go.AM Go.RowKit
theorem aBY:((begin Tryz.prog (λ_ _=>0) default).world.heap[0]?).bind Obj.row?=some (#[.int .i64 0],3):=by kernel_rfl
theorem aPl{H:Type}{enc:TypeId×Value->H}{P:Program}{W:World}{b:Nat}{sp:Nat->Bool}{hd:Bool}{n t:Nat}{cs:List Value}{x}{ms}(ht:P.underlying t=some (.interface ms))(h:DataW.trod enc P W b sp hd n t cs=some x):∃v,cs=[v]/\(v=.nilIface\/∃u y,v=.iface u y):=by
 cases n with
 |zero=>simp[DataW.trod] at h
 |succ n =>
  unfold DataW.trod at h;rw[ht] at h
  split at h<;>simp_all
theorem oV{P:Program}{W:World}:∀{l:List (String×DataW Unit)}{ps:List MemPlace},DataW.LaidVars P W l ps->∀(i:Nat)(n:String)(d:DataW Unit),l[i]?=some (n,d) ->
  ∃g t cs fuel p,P.globalNamed n=some g/\(P.globals[g]?).map (·.type)=some t/\W.var? P n=some cs/\DataW.trod (λ_=>()) P W 0 (λ_=>true) false fuel t cs.toList=some (d,p)
 |(m,e)::r,ps,h,i,n,d,hi=>by
  obtain⟨g,t,cs,fuel,p,q,h1,h2,h3,h4,h5,_⟩:=h;cases i with
  |zero=>simp at hi;obtain⟨rfl,rfl⟩:=hi;exact⟨g,t,cs,fuel,p,h1,h2,h3,h4⟩
  |succ i=>exact oV h5 i n d (by simpa using hi)
theorem gSyn:Tryz.prog.globalNamed "strconv.ErrSyntax"=some 1:=by kernel_rfl
theorem gRng:Tryz.prog.globalNamed "strconv.ErrRange"=some 2:=by kernel_rfl
theorem gPow:Tryz.prog.globalNamed "internal/strconv.uint64pow10"=some 5:=by kernel_rfl
theorem tSyn:(Tryz.prog.globals[1]?).map (·.type)=some 345:=by kernel_rfl
theorem tRng:(Tryz.prog.globals[2]?).map (·.type)=some 345:=by kernel_rfl
theorem tPow:(Tryz.prog.globals[5]?).map (·.type)=some 392:=by kernel_rfl
def powL:List Int:=(List.range 20).map λi=>((10^i:Nat):Int)
theorem glob{W:World}(hs:W.ShapedOpen Tryz.prog)(hl:laidMet Tryz.prog Rows.preludeLawsRow.laid W):Glob (O0 W) where
 maxLen:=by
  obtain⟨m,hm⟩:=cell_of_shapedOpen_int (g:=0) (t:=3) (k:=.i64) hs (Et (by kernel_rfl)) aBY rfl (by kernel_rfl) (by kernel_rfl) Tryz.underlying3;exact⟨m,rfl,_,hm,.int _ _⟩
 syn:=by
  obtain⟨ps,h,_⟩:=hl;obtain⟨g,t,cs,fuel,p,h1,h2,h3,h4⟩:=oV h 5 "strconv.ErrSyntax" _ rfl;obtain rfl:=Ap (gSyn.symm.trans h1);obtain rfl:=Ap (tSyn.symm.trans h2);obtain⟨v,hv,VP⟩:=aPl Tryz.underlying345 h4
  have:=World.var?_cell h1 h3 0
  rw[<-Bq,hv] at this;exact⟨rfl,v,by simpa using this,.opq v VP⟩
 rng:=by
  obtain⟨ps,h,_⟩:=hl;obtain⟨g,t,cs,fuel,p,h1,h2,h3,h4⟩:=oV h 4 "strconv.ErrRange" _ rfl;obtain rfl:=Ap (gRng.symm.trans h1);obtain rfl:=Ap (tRng.symm.trans h2);obtain⟨v,hv,VP⟩:=aPl Tryz.underlying345 h4
  have:=World.var?_cell h1 h3 0
  rw[<-Bq,hv] at this;exact⟨rfl,v,by simpa using this,.opq v VP⟩
 pow:=λi hi=>by
  obtain⟨ps,h,_⟩:=hl;have h:=oV h 2 "internal/strconv.uint64pow10" (Lib.tabData .u64 powL) (by kernel_rfl);obtain⟨g,t,cs,fuel,p,h1,h2,h3,h4⟩:=h;obtain rfl:=Ap (gPow.symm.trans h1);obtain rfl:=Ap (tPow.symm.trans h2);have hc:=Lib.cells_of_tab Tryz.underlying392 Tryz.underlying165 (by kernel_rfl) (by kernel_rfl) h4
  have:=World.var?_cell h1 h3 i
  rw[<-Bq,hc] at this
  have h5:(powL.map λz=>Value.int .u64 z)[i]?=some (.int .u64 ((10^i:Nat):Int)):=by
   rw[Ao,powL,Ao,Cv hi];rfl
  rw[h5] at this;exact⟨rfl,_,this,.int _ _⟩
theorem len5{W:World}(hl:laidMet Tryz.prog Rows.preludeLawsRow.laid W):Xx W:=by
 obtain⟨ps,h,_⟩:=hl;obtain⟨g,t,cs,fuel,p,h1,h2,h3,h4⟩:=oV h 2 "internal/strconv.uint64pow10" (Lib.tabData .u64 powL) (by kernel_rfl);obtain rfl:=Ap (gPow.symm.trans h1);obtain rfl:=Ap (tPow.symm.trans h2);have hc:=Lib.cells_of_tab Tryz.underlying392 Tryz.underlying165 (by kernel_rfl) (by kernel_rfl) h4
 have BG:cs.size=20:=by
  have:=Ar List.length hc
  simpa[powL] using this
 simp only[World.var?,h1,Ai] at h3
 split at h3
 ·rename_i hh
  cases h3;exact⟨_,_,_,hh,BG⟩
 ·cases h3
theorem gTab:Tryz.prog.globalNamed "math/bits.deBruijn64tab"=some 7:=by kernel_rfl
theorem size8{W:World}(hl:laidMet Tryz.prog Rows.preludeLawsRow.laid W):8<=W.heap.size:=by
 obtain⟨ps,h,_⟩:=hl;obtain⟨g,t,cs,fuel,p,h1,h2,h3,h4⟩:=oV h 1 "math/bits.deBruijn64tab" _ rfl;obtain rfl:=Ap (gTab.symm.trans h1);simp only[World.var?,h1,Ai] at h3
 split at h3
 ·rename_i hh
  have:=(Ad.1 hh).1
  omega
 ·cases h3
theorem wsat{W:World}(h8:8<=W.heap.size)(h:Glob (O0 W))(h5:Xx W):WSat (O0 W) W:=⟨h8,h,h5,λb o c ⟨h1,v,h2,h3⟩=>⟨h1,v,h2,h3.rel⟩⟩
theorem Rd.vrel{W:World}{xs:List AVal}{vs:List Value}(h:Rd W xs vs):VRel (O0 W) [] (.agg xs) (.agg ⟨vs⟩) :=
 .agg xs vs h.len (λi c hc=>by
  have hi:i<vs.length:=by rw[<-h.len];exact(Ab.1 hc).1
  exact jB (h.abs i c _ hc (Bf hi)).1) (λi c v h1 h2=>(h.abs i c v h1 h2).2.rel)
theorem qh{W w':World}{Z Z':HT}{AP:Own}(h:Fr W Z (λ_=>none) w' Z' AP):Below W.heap.size W w':=⟨h.os,h.tape,h.output,h.size,λk hk=>(h.keep k hk rfl).1⟩
end
section
open Go.Proofs.YtdkkaldimefljaaGreatDoor Go.AM Go.RowKit Go.Lib
theorem aRs:ownKnob Tryz.prog.godebug=none:=by kernel_rfl
theorem laidOut:laidOutB Tryz.prog=true:=by kernel_rfl
def dq:Nat->DataW Unit->List Value
 |0,_=>[]
 |_+1,.lit (.int k z)=>[.int k z]
 |n+1,.agg l=>l.flatMap (dq n)
 |_,_=>[]
noncomputable def N0:Nat:=(World.settled Tryz.prog default).heap.size
noncomputable def oU(os:Os):World :=
 let N:=(World.settled Tryz.prog os).heap.size
 let w0:=World.holding Tryz.prog os ⟨#[.cells #[.string ⟨#[118,97,108,117,101,32,111,117,116,32,111,102,32,114,97,110,103,101]⟩] 384,.cells #[.string ⟨#[105,110,118,97,108,105,100,32,115,121,110,116,97,120]⟩] 384],#[],[]⟩
 let put (h:Array Obj) (g:Nat) (cs:Array Value):Array Obj:=h.modify g fun
  |.cells _ t frozen=>.cells cs t frozen
  |o=>o
 let h1:=put w0.heap 1 #[.iface 382 (.pointer (some ⟨N+1,0,none⟩))]
 let h2:=put h1 2 #[.iface 382 (.pointer (some ⟨N,0,none⟩))]
 let h3:=put h2 3 (dq 3 Rows.laid_unicode_utf8_first).toArray
 let h4:=put h3 4 (dq 3 (Rows.laid_unicode_utf8_acceptRanges (H:=Unit))).toArray
 let h5:=put h4 5 (dq 3 (Rows.laid_internal_strconv_uint64pow10 (H:=Unit))).toArray
 let h6:=put h5 6 (dq 3 (Rows.laid_math_bits_deBruijn32tab (H:=Unit))).toArray
 let h7:=put h6 7 (dq 3 (Rows.laid_math_bits_deBruijn64tab (H:=Unit))).toArray
 { w0 with heap:=h7 }
theorem aEQ(os:Os)(args:Array Value):laidMet Tryz.prog Rows.preludeLawsRow.laid ((oU os).forCall (λ_ _=>0) ⟨#[],args,[]⟩).memory :=
 (LaidIn.of_run [1,2,3,4,5,6,7,N0,N0+1] 8 (by kernel_rfl) (by kernel_rfl) (by kernel_rfl) (by kernel_rfl)).met
theorem aRV:Tryz.prog.laidByTextLater [("math/bits.deBruijn32tab",Rows.laid_math_bits_deBruijn32tab),("math/bits.deBruijn64tab",Rows.laid_math_bits_deBruijn64tab),("internal/strconv.uint64pow10",Rows.laid_internal_strconv_uint64pow10),("unicode/utf8.acceptRanges",Rows.laid_unicode_utf8_acceptRanges),("strconv.ErrRange",Rows.laid_strconv_ErrRange),("strconv.ErrSyntax",Rows.laid_strconv_ErrSyntax)] [.data,.data,.data,.data,.sentinel,.sentinel] true :=
 Program.laidByTextLater_by_one 72 8 65 (by kernel_rfl) (by kernel_rfl) (by kernel_rfl) (by kernel_rfl) (by kernel_rfl) (by kernel_rfl) (λ_ _=>by kernel_rfl)
theorem aRU:Tryz.pinned.checked.prog.pinnedFits "unicode/utf8.first"=true:=by kernel_rfl
theorem aRW:Tryz.pinned.checked.prog.headLifts.contains "ownunsafe"=false:=by kernel_rfl
theorem aRT:Tryz.pinned.checked.prog.listedFits [("math/bits.deBruijn32tab",Rows.laid_math_bits_deBruijn32tab),("math/bits.deBruijn64tab",Rows.laid_math_bits_deBruijn64tab),("internal/strconv.uint64pow10",Rows.laid_internal_strconv_uint64pow10),("unicode/utf8.acceptRanges",Rows.laid_unicode_utf8_acceptRanges),("strconv.ErrRange",Rows.laid_strconv_ErrRange),("strconv.ErrSyntax",Rows.laid_strconv_ErrSyntax),("unicode/utf8.first",Rows.laid_unicode_utf8_first)]=true:=by
 unfold Program.listedFits;rw[aRW]
 kernel_rfl
theorem aER:Rows.preludeLawsUptoRow.laidByTextAt .later Tryz.pinned [.data,.data,.data,.data,.sentinel,.sentinel,.pinned] true :=
 OpenClaim.laidByTextAt_pinned rfl rfl aRV rfl rfl rfl rfl (λy hy _e=>by
  simp only[Rows.preludeLawsUptoRow,List.zip_cons_cons,List.zip_nil_right,Bb,List.mem_nil_iff,Eb] at hy;rcases hy with rfl|rfl|rfl|rfl|rfl|rfl|rfl
  ·cases _e
  ·cases _e
  ·cases _e
  ·cases _e
  ·cases _e
  ·cases _e
  ·exact⟨aRU,by kernel_rfl⟩) aRT
end
section
open Go.Proofs.YtdkkaldimefljaaGreatDoor Go.AM Go.RowKit Go.ChangeShapes Go.WideShapes Go.ChangeAt
theorem yz{H:Type}{enc:TypeId×Value->H}{P:Program}{f:Func}{s:ChangeSpec}{W W':World}{args:Array Value}{v:Value}{ds gs:List (DataW H)}{before pa pv:List MemPlace}
  (hW:DataW.Whole enc P f.params.toList s.vars false W args.toList ds gs before) (hb:Below W.heap.size W W')
  (CB:∀(b:Nat)(sp:Nat->Bool)(hd:Bool),DataW.TrodAll enc P W' b sp hd f.resultTypes.toList (v.resultList f.resultTypes.size) (s.fn H (ds++gs)).results [])
  (BQ:∀sp:Nat->Bool,(∀p∈before,sp p.block=true)->DataW.TrodAll enc P W' 0 sp true f.params.toList args.toList (s.fn H (ds++gs)).args pa)
  (PH:∀sp:Nat->Bool,(∀p∈before,sp p.block=true)->DataW.TrodVars enc P W' sp s.vars (s.fn H (ds++gs)).vars pv)
  (hps:before=pa++pv)
  (F9:∀(j:Nat)(t:TypeId)(r:Value),f.resultTypes[j]?=some t->(v.resultList f.resultTypes.size)[j]?=some r->Value.okWide P W' .any 0 t r) :
  s.post enc P f false true false false W args v W':=by
 have hold:∀p∈before,(λb=>decide (b<W.heap.size)) p.block=true:=λp hp=>by simpa using hW.lt p hp
 refine⟨ds,gs,before,[],pa,pv,hW,CB _ _ _,BQ _ hold,PH _ hold,hb.frame _,λh=>?_⟩;cases h
set_option maxRecDepth 100000 in
theorem aD9(E:∀B0,Env Tryz.prog ans B0 (@jU A1))(H:Type)(enc:TypeId×Value->H)(W:World)(base:Nat)(args:Array Value)(ds gs:List (DataW H))(before:List MemPlace)
  (LH:∀(j:Nat) t v,Tryz.f4.params[j]?=some t->args[j]?=some v->Value.okWide Tryz.prog W .any base t v)
  (hW:DataW.Whole enc Tryz.prog Tryz.f4.params.toList Rows.preludeLawsSpec.vars false W args.toList ds gs before) (hk:Rows.uptoSmall H (ds++gs)=true) (hL:laidMetH Tryz.prog Rows.preludeLawsRow.laid W) (PN:W.ShapedOpen Tryz.prog) :
  Calls Tryz.prog 4 args W λe W'=>∃v,e=.returned v/\Rows.preludeLawsSpec.post enc Tryz.prog Tryz.f4 false true false false W args v W':=by
 have WV:=hW;obtain⟨p,q,Jt,hV,rfl,hfz,GM⟩:=hW;have hA:DataW.TrodAll enc Tryz.prog W 0 (λ_=>true) true Tryz.f4.params.toList args.toList ds p:=Jt;rw[Tryz.params4] at hA LH;obtain⟨v0,vs0,d0,ds0,p0,q0,BQ,rfl,rfl,h0,r0⟩:=trodAll_cons hA;obtain⟨rfl,rfl,rfl⟩:=trodAll_nil r0;obtain rfl:args=#[v0]:=Array.toList_inj.1 BQ;obtain⟨rfl,rfl⟩:=trodVars_none hV;have ok0:=LH 0 35 v0 (by kernel_rfl) (by simp);simp only[Value.okWide,Tryz.underlying35] at ok0;obtain⟨cs0,rfl,_,_⟩:=ok0;have h0k:=h0;obtain⟨f0,h0⟩:=h0;obtain⟨A,B,C,N,LQ,G5⟩:=aIC f0 _ _ h0;clear Jt;simp only[Bv] at WV hk;have hsm:Rows.uptoBulkAll [d0]<=1048576:=Et hk;simp only[Rows.uptoBulkAll] at hsm;simp only at G5;have hc:=aCg A B C N (by simp only[BE];omega) (by simp only[BE];omega) (by simp only[BE];omega) ⟨[],0⟩ (Ae _)
 have BM:dW ans W.heap.size W (O0 W) [] (λ_=>none) [.val (lists A B C N)] #[.agg cs0] ⟨[],0⟩:=by
  refine⟨wsat (size8 hL) (glob PN hL) (len5 hL),Ae _,λb h=>absurd rfl h,rfl,λs hs=>?_,λi s hi=>?_,⟨rfl,λi o h=>by simp at h⟩,Ae _⟩
  ·simp at hs;rw[hs];rfl
  ·match i,hi with
   |0,hi=>cases hi;exact .val _ _ LQ.vrel
 refine(aB0 (E W.heap.size) rfl hc BM).mono λe W' h=>?_
 obtain⟨Z',J',AP,D4,_,v,rfl,hs⟩:=h
 have hv:v=.bool true:=by
  cases hs with
  |val x v h=>cases h;rfl
 subst hv;have Jr:=qh D4;have AR:∀x∈p0++[],x.block<W.heap.size:=λx hx=>WV.lt x (by simpa using hx)
 refine⟨_,rfl,yz (pa:=p0++[]) (pv:=[]) WV Jr (λ_ _ _=>trodAll_cons_mk (shut_bool Tryz.underlying4 _) trodAll_mk0) (λsp Ik=>?_) (λ_ _=>rfl) (by simp) (ok_one (by kernel_rfl) rfl (okWide_bool_mk Tryz.underlying4 _))⟩;exact trodAll_cons_mk (WideElems.Trod_stays laidOut (by kernel_rfl) (Et (by kernel_rfl)) h0k (λx hx=>Jr.same (AR x (by simp[hx]))) (λx hx=>Ik x (by simp[hx]))) trodAll_mk0
end
end Go.Proofs.YtdkkaldimefljaaGreatDoor
