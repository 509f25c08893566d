/- The function MatchPatterns of the program returns true whenever it is called with arguments that the given statement MatchPatternsUptoCardSaid describes.
Conditions: those that the statement itself names (a started world, arguments laid as its row says and no larger than its row says); nothing else is assumed. -/
import Derived.Test.YtkmnkiekmlcfdaaGreatDoorRows
import Derived.Deep.Slices
import Derived.Deep.Strs
import Derived.Lib.LaidTab
import Derived.DataElems
import Derived.ChangeArms
import Derived.Shelf.Vars
import Derived.OpenShut
import Derived.Test.YtkmnkiekmlcfdaaGreatDoorCards
import Derived.Test.YtkmnkiekmlcfdaaGreatDoorTie
import Derived.ProofKit
import Derived.Deep.DeepHandedRow
import Derived.Deep.DeepWitnessRowRef
import Derived.Lib.LaidIn
import Derived.Test.YtkmnkiekmlcfdaaGreatDoorE17
import Derived.Test.YtkmnkiekmlcfdaaGreatDoorB06
import Derived.Test.YtkmnkiekmlcfdaaGreatDoorS15
set_option linter.all false
section
section
namespace Go.Proofs.YtkmnkiekmlcfdaaGreatDoor
open Go.AM
inductive CAbs (W:World):AVal→Value→Prop
 |int (k:IntKind) (n:Int):CAbs W (.int k n) (.int k n)
 |str (s:ByteArray):CAbs W (.str s.data.toList) (.string s)
 |nil:CAbs W (.slice []) (.slice none 0 0)
 |opq (v:Value) (h:v=.nilIface∨∃ t x,v=.iface t x):CAbs W .opq v
 |slice (xs:List AVal) (b o len cap s:Nat) (sp:Option Nat) (vs:Nat→Nat→Value) (hl:xs.length=len) (hc:len≤cap) (hp:xs≠[]→sp=none) (hs:∀ (i:Nat) (x:AVal),xs[i]?=some x→x.cells.length=s)
   (hf:∀ (i:Nat) (x:AVal) (j:Nat) (c:AVal),xs[i]?=some x→x.cells[j]?=some c→flat c=true∧W.cell? ⟨b,o+i * s+j,none⟩=some (vs i j))
   (hx:∀ (i:Nat) (x:AVal) (j:Nat) (c:AVal),xs[i]?=some x→x.cells[j]?=some c→CAbs W c (vs i j)):CAbs W (.slice xs) (.slice (some ⟨b,o,sp⟩) len cap)
def Psi (W:World):HT:=fun b o c=>flat c=true∧∃ v,W.cell? ⟨b,o,none⟩=some v∧CAbs W c v
theorem CAbs.rel {W:World} {ρ:List Nat} {c:AVal} {v:Value} (h:CAbs W c v):VRel (Psi W) ρ c v:=by
 induction h with
 |int k n=>exact .int k n
 |str s =>
  have:s=⟨⟨s.data.toList⟩⟩:=by cases s;simp
  rw[this];exact .str _
 |nil=>exact .slice [] none 0 0 0 rfl (Nat.le_refl _) (fun i x e=>by simp at e)
 |opq v h=>exact .opq v h
 |slice xs b o len cap s sp vs hl hc hp hs hf hx ih =>
  refine .slice xs _ len cap s hl hc fun i x e=>⟨hs i x e,b,o,?_,fun j c hj=>⟨(hf i x j c e hj).1,_,(hf i x j c e hj).2,hx i x j c e hj⟩⟩
  rw[hp (fun h=>by rw[h] at e;simp at e)]
structure Rd (W:World) (xs:List AVal) (vs:List Value):Prop where
 len:xs.length=vs.length
 abs:∀ (j:Nat) (c:AVal) (v:Value),xs[j]?=some c→vs[j]?=some v→flat c=true∧CAbs W c v
theorem Rd.one {W:World} {c:AVal} {v:Value} (hf:flat c=true) (h:CAbs W c v):Rd W [c] [v]:=⟨rfl,fun j x u hx hu=>by
 cases j with
 |zero=>simp at hx hu;subst hx;subst hu;exact ⟨hf,h⟩
 |succ j=>simp at hx⟩
theorem Rd.append {W:World} {a b:List AVal} {u v:List Value} (h:Rd W a u) (k:Rd W b v):Rd W (a++b) (u++v):=⟨by simp [h.len,k.len],fun j c x hc hx=>by
 rw[List.getElem?_append] at hc hx;rw[h.len] at hc
 split at hc
 ·rename_i hj;rw[if_pos hj] at hx;exact h.abs j c x hc hx
 ·rename_i hj;rw[if_neg hj] at hx;exact k.abs _ c x hc hx⟩
section
variable {H:Type} {enc:TypeId×Value→H} {W:World} {sp:Nat→Bool} {hd:Bool}
noncomputable abbrev rd (enc:TypeId×Value→H) (W:World) (sp:Nat→Bool) (hd:Bool) (n:Nat) (t:TypeId) (cs:List Value):=DataW.trod enc Tryz.prog W 0 sp hd n t cs
theorem rdInt {n t k} (ht:Tryz.prog.underlying t=some (.int k)) {cs:List Value} {x} (h:rd enc W sp hd n t cs=some x):∃ z:Int,cs=[.int k z]∧(Lit.int k z).wf=true∧Rd W [.int k z] cs∧1≤Rows.uptoBulk x.1:=by
 obtain ⟨z,rfl,rfl,hw⟩:=DataW.trod_int ht h;exact ⟨z,rfl,hw,.one rfl (.int _ _),by simp [Rows.uptoBulk]⟩
theorem rdStr {n t} (ht:Tryz.prog.underlying t=some .string) {cs:List Value} {x} (h:rd enc W sp hd n t cs=some x):∃ s:List UInt8,Rd W [.str s] cs∧s.length+1≤Rows.uptoBulk x.1:=by
 obtain ⟨s,rfl,rfl,_⟩:=DataW.trod_string ht h;exact ⟨s.data.toList,.one rfl (.str _),by simp [Rows.uptoBulk]⟩
def tot {α:Type} (sz:α→Nat):List α→Nat
 |[]=>0
 |a::l=>sz a+1+tot sz l
theorem tot_append {α:Type} (sz:α→Nat):∀ a b:List α,tot sz (a++b)=tot sz a+tot sz b
 |[],b=>by simp [tot]
 |x::a,b=>by simp only[List.cons_append,tot,tot_append sz a b];omega
theorem bulkAll_append {H:Type}:∀ l r:List (DataW H),Rows.uptoBulkAll (l++r)=Rows.uptoBulkAll l+Rows.uptoBulkAll r
 |[],r=>by simp [Rows.uptoBulkAll]
 |x::l,r=>by simp only[List.cons_append,Rows.uptoBulkAll,bulkAll_append l r];omega
theorem rdSlice {α:Type} (en:α→AVal) (sz:α→Nat) {n t e s:Nat} (ht:Tryz.prog.underlying t=some (.slice e)) (hs:Tryz.prog.cellsOf e=s) (hs0:0 < s) (hfl:∀ a,(en a).cells.length=s) {cs:List Value} {x}
  (ih:∀ m,m < n→∀ cs x,rd enc W sp hd m e cs=some x→∃ a:α,Rd W (en a).cells cs∧sz a+1≤Rows.uptoBulk x.1)
  (h:rd enc W sp hd n t cs=some x):∃ l:List α,Rd W [.slice (l.map en)] cs∧tot sz l+1≤Rows.uptoBulk x.1:=by
 rcases DataW.trod_slice ht h with ⟨rfl,rfl⟩|⟨a,len,cap,elems,rest,m,rfl,rfl,rfl,hb,hlc,hmx,hel,hE,_,_⟩
 ·exact ⟨[],.one rfl .nil,by simp [tot,Rows.uptoBulk]⟩
 ·have build:∀ k,k≤len→∃ l:List α,l.length=k∧(∀ (i:Nat) (a0:α),l[i]?=some a0→∃ cs',W.cells? 0 (a.add (i * s)) s=some cs'∧Rd W (en a0).cells cs')∧tot sz l≤Rows.uptoBulkAll ((elems.take k).map (·.1)):=by
   intro k;induction k with
   |zero=>intro _;exact ⟨[],rfl,fun i a0 e=>by simp at e,by simp [tot]⟩
   |succ k ihk =>
    intro hk;obtain ⟨l,l1,l2,l3⟩:=ihk (by omega);have h1:=hE k (by omega);have hke:k < elems.length:=by omega
    rw[List.getElem?_eq_getElem hke] at h1;obtain ⟨cs',g1,g2⟩:=Option.bind_eq_some_iff.1 h1;obtain ⟨a0,k1,k2⟩:=ih m (by omega) cs' _ g2;refine ⟨l++[a0],by simp [l1],fun i b0 e=>?_,?_⟩
    ·rw[List.getElem?_append] at e
     split at e
     ·exact l2 i b0 e
     ·rename_i hi
      have hik:i=k:=by
       have:=(List.getElem?_eq_some_iff.1 e).1
       simp at this;omega
      subst hik;simp [l1] at e;subst e;exact ⟨cs',by rw[←hs];exact g1,k1⟩
    ·rw[List.take_add_one,List.getElem?_eq_getElem hke]
     simp only[Option.toList_some,List.map_append,List.map_cons,List.map_nil,bulkAll_append,tot_append];simp only[tot,Rows.uptoBulkAll];omega
  obtain ⟨l,l1,l2,l3⟩:=build len (Nat.le_refl _);rw[List.take_of_length_le (by omega)] at l3;refine ⟨l,?_,by simp only[Rows.uptoBulk];omega⟩
  have hcell:∀ (i:Nat) (a0:α) (j:Nat) (c:AVal),l[i]?=some a0→(en a0).cells[j]?=some c→∃ v,W.cell? (a.add (i * s+j))=some v∧flat c=true∧CAbs W c v:=fun i a0 j c h1 h2=>by
   obtain ⟨cs',g1,g2⟩:=l2 i a0 h1;obtain ⟨_,g3,g4⟩:=World.cells?_some g1;have hj:j < s:=by rw[←hfl a0];exact (List.getElem?_eq_some_iff.1 h2).1
   have hjc:j < cs'.length:=by omega
   have h5:=g4 j hj;rw[Addr.add_add,List.getElem?_eq_getElem hjc] at h5;have h6:=g2.abs j c _ h2 (List.getElem?_eq_getElem hjc);exact ⟨_,h5,h6.1,h6.2⟩
  obtain ⟨b,o,spt⟩:=a
  have hspot:l.map en≠[]→spt=none:=fun hne=>by
   cases l with
   |nil=>exact absurd rfl hne
   |cons a0 l =>
    have h0:0 < (en a0).cells.length:=by rw[hfl];exact hs0
    obtain ⟨v,h1,_⟩:=hcell 0 a0 0 _ rfl (List.getElem?_eq_getElem h0)
    have:=World.cell?_spot h1
    simpa [Addr.add] using this
  refine .one rfl (.slice (l.map en) b o len cap s spt (fun i j=>(W.cell? ⟨b,o+i * s+j,none⟩).getD undef) (by simp [l1]) hlc hspot (fun i x e=>?_) (fun i x j c e hj=>?_) (fun i x j c e hj=>?_))
  all_goals
   rw[List.getElem?_map,Option.map_eq_some_iff] at e;obtain ⟨a0,e1,rfl⟩:=e
  ·exact hfl a0
  ·obtain ⟨v,h1,h2,_⟩:=hcell i a0 j c e1 hj
   have hsp:=hspot (fun h=>by have:=List.map_eq_nil_iff.1 h;subst this;simp at e1);subst hsp;rw[Go.WideShapes.add_plain,←Nat.add_assoc] at h1;exact ⟨h2,by rw[h1];rfl⟩
  ·obtain ⟨v,h1,_,h3⟩:=hcell i a0 j c e1 hj
   have hsp:=hspot (fun h=>by have:=List.map_eq_nil_iff.1 h;subst this;simp at e1);subst hsp;rw[Go.WideShapes.add_plain,←Nat.add_assoc] at h1;rw[h1];exact h3
theorem take_split {α:Type} (cs:List α) (a b:Nat) (h:cs.length=a+b):cs=(cs.drop 0).take a++(cs.drop a).take b:=by
 rw[List.drop_zero,List.take_of_length_le (l:=cs.drop a) (by simp;omega),List.take_append_drop]
theorem take_split3 {α:Type} (cs:List α) (a b c:Nat) (h:cs.length=a+b+c):cs=(cs.drop 0).take a++((cs.drop a).take b++(cs.drop (a+b)).take c):=by
 rw[List.drop_zero,List.take_of_length_le (l:=cs.drop (a+b)) (by simp;omega)]
 have:(cs.drop a).take b++cs.drop (a+b)=cs.drop a:=by rw[←List.drop_drop,List.take_append_drop]
 rw[this,List.take_append_drop]
theorem tot_ty:∀ l:List TyD,tot TyD.size l=TyD.sizes l
 |[]=>rfl
 |t::l=>by simp only[tot,TyD.sizes,tot_ty l]
theorem tot_pa:∀ l:List PaD,tot PaD.size l=PaD.sizes l
 |[]=>rfl
 |t::l=>by simp only[tot,PaD.sizes,tot_pa l]
theorem tot_co:∀ l:List CoD,tot CoD.size l=conSizes l
 |[]=>rfl
 |t::l=>by simp only[tot,conSizes,tot_co l]
theorem tot_da:∀ l:List DaD,tot DaD.size l=datSizes l
 |[]=>rfl
 |t::l=>by simp only[tot,datSizes,tot_da l]
theorem tot_st:∀ l:List (List UInt8),tot List.length l=strSizes l
 |[]=>rfl
 |t::l=>by simp only[tot,strSizes,tot_st l]
theorem k25:Tryz.prog.cellsOf 25=2:=by kernel_rfl
theorem k30:Tryz.prog.cellsOf 30=3:=by kernel_rfl
theorem k61:Tryz.prog.cellsOf 61=2:=by kernel_rfl
theorem k116:Tryz.prog.cellsOf 116=3:=by kernel_rfl
theorem k28:Tryz.prog.cellsOf 28=4:=by kernel_rfl
theorem k9:Tryz.prog.cellsOf 9=1:=by kernel_rfl
theorem k3:Tryz.prog.cellsOf 3=1:=by kernel_rfl
theorem k23:Tryz.prog.cellsOf 23=1:=by kernel_rfl
theorem k26:Tryz.prog.cellsOf 26=1:=by kernel_rfl
theorem k22:Tryz.prog.cellsOf 22=1:=by kernel_rfl
theorem k58:Tryz.prog.cellsOf 58=1:=by kernel_rfl
theorem k72:Tryz.prog.cellsOf 72=1:=by kernel_rfl
theorem rdTy:∀ (n:Nat) (cs:List Value) (x:DataW H×List MemPlace),rd enc W sp hd n 25 cs=some x→∃ t:TyD,Rd W t.enc.cells cs∧t.size+1≤Rows.uptoBulk x.1:=by
 intro n;induction n using Nat.strongRecOn with
 |ind n ih =>
  intro cs x h;obtain ⟨xs,m,rfl,rfl,hl,hlen,hf⟩:=DataW.trod_struct Tryz.underlying25 h
  match xs,hlen with
  |[y0,y1],_ =>
   have h0:rd enc W sp hd m 9 ((cs.drop 0).take (Tryz.prog.cellsOf 9))=some y0:=hf 0 _ rfl;rw[k9] at h0;have h1:rd enc W sp hd m 23 ((cs.drop 1).take (Tryz.prog.cellsOf 23))=some y1:=hf 1 _ rfl;rw[k23] at h1;obtain ⟨s,r0,b0⟩:=rdStr Tryz.underlying9 h0;obtain ⟨l,r1,b1⟩:=rdSlice TyD.enc TyD.size Tryz.underlying23 k25 (by omega) (fun a=>by rw[a.enc_eq];rfl) (fun m' hm=>ih m' (by omega)) h1;rw[k25] at hl;rw[tot_ty] at b1;refine ⟨.mk s l,?_,?_⟩
   ·have:=r0.append r1
    rw[←take_split cs 1 1 hl] at this;rw[TyD.enc_mk];exact this
   ·simp only[TyD.size,List.map_cons,List.map_nil,Rows.uptoBulk,Rows.uptoBulkAll];omega
theorem rdPa:∀ (n:Nat) (cs:List Value) (x:DataW H×List MemPlace),rd enc W sp hd n 30 cs=some x→∃ p:PaD,Rd W p.enc.cells cs∧p.size+1≤Rows.uptoBulk x.1:=by
 intro n;induction n using Nat.strongRecOn with
 |ind n ih =>
  intro cs x h;obtain ⟨xs,m,rfl,rfl,hl,hlen,hf⟩:=DataW.trod_struct Tryz.underlying30 h
  match xs,hlen with
  |[y0,y1,y2],_ =>
   have h0:rd enc W sp hd m 3 ((cs.drop 0).take (Tryz.prog.cellsOf 3))=some y0:=hf 0 _ rfl;rw[k3] at h0;have h1:rd enc W sp hd m 9 ((cs.drop 1).take (Tryz.prog.cellsOf 9))=some y1:=hf 1 _ rfl;rw[k9] at h1;have h2:rd enc W sp hd m 26 ((cs.drop 2).take (Tryz.prog.cellsOf 26))=some y2:=hf 2 _ rfl;rw[k26] at h2;obtain ⟨z,_,_,r0,b0⟩:=rdInt Tryz.underlying3 h0;obtain ⟨s,r1,b1⟩:=rdStr Tryz.underlying9 h1;obtain ⟨l,r2,b2⟩:=rdSlice PaD.enc PaD.size Tryz.underlying26 k30 (by omega) (fun a=>by rw[a.enc_eq];rfl) (fun m' hm=>ih m' (by omega)) h2;rw[k30] at hl;rw[tot_pa] at b2;refine ⟨.mk z s l,?_,?_⟩
   ·have:=r0.append (r1.append r2)
    rw[←take_split3 cs 1 1 1 hl] at this;rw[PaD.enc_mk];exact this
   ·simp only[PaD.size,List.map_cons,List.map_nil,Rows.uptoBulk,Rows.uptoBulkAll];omega
theorem rdCo (n:Nat) (cs:List Value) (x:DataW H×List MemPlace) (h:rd enc W sp hd n 61 cs=some x):∃ c:CoD,Rd W c.enc.cells cs∧c.size+1≤Rows.uptoBulk x.1:=by
 obtain ⟨xs,m,rfl,rfl,hl,hlen,hf⟩:=DataW.trod_struct Tryz.underlying61 h
 match xs,hlen with
 |[y0,y1],_ =>
  have h0:rd enc W sp hd m 9 ((cs.drop 0).take (Tryz.prog.cellsOf 9))=some y0:=hf 0 _ rfl;rw[k9] at h0;have h1:rd enc W sp hd m 23 ((cs.drop 1).take (Tryz.prog.cellsOf 23))=some y1:=hf 1 _ rfl;rw[k23] at h1;obtain ⟨s,r0,b0⟩:=rdStr Tryz.underlying9 h0;obtain ⟨l,r1,b1⟩:=rdSlice TyD.enc TyD.size Tryz.underlying23 k25 (by omega) (fun a=>by rw[a.enc_eq];rfl) (fun m' _=>rdTy m') h1;rw[k61] at hl;rw[tot_ty] at b1;refine ⟨⟨s,l⟩,?_,?_⟩
  ·have:=r0.append r1
   rw[←take_split cs 1 1 hl] at this;rw[CoD.enc_eq];exact this
  ·simp only[CoD.size,List.map_cons,List.map_nil,Rows.uptoBulk,Rows.uptoBulkAll];omega
theorem rdDa (n:Nat) (cs:List Value) (x:DataW H×List MemPlace) (h:rd enc W sp hd n 116 cs=some x):∃ d:DaD,Rd W d.enc.cells cs∧d.size+1≤Rows.uptoBulk x.1:=by
 obtain ⟨xs,m,rfl,rfl,hl,hlen,hf⟩:=DataW.trod_struct Tryz.underlying116 h
 match xs,hlen with
 |[y0,y1,y2],_ =>
  have h0:rd enc W sp hd m 9 ((cs.drop 0).take (Tryz.prog.cellsOf 9))=some y0:=hf 0 _ rfl;rw[k9] at h0;have h1:rd enc W sp hd m 72 ((cs.drop 1).take (Tryz.prog.cellsOf 72))=some y1:=hf 1 _ rfl;rw[k72] at h1;have h2:rd enc W sp hd m 58 ((cs.drop 2).take (Tryz.prog.cellsOf 58))=some y2:=hf 2 _ rfl;rw[k58] at h2;obtain ⟨s,r0,b0⟩:=rdStr Tryz.underlying9 h0
  obtain ⟨vs,r1,b1⟩:=rdSlice AVal.str List.length Tryz.underlying72 k9 (by omega) (fun a=>rfl) (fun m' _ cs x h=>by
   obtain ⟨s,r,b⟩:=rdStr Tryz.underlying9 h;exact ⟨s,r,b⟩) h1
  obtain ⟨l,r2,b2⟩:=rdSlice CoD.enc CoD.size Tryz.underlying58 k61 (by omega) (fun a=>by rw[a.enc_eq];rfl) (fun m' _=>rdCo m') h2;rw[k116] at hl;rw[tot_st] at b1;rw[tot_co] at b2;refine ⟨⟨s,vs,l⟩,?_,?_⟩
  ·have:=r0.append (r1.append r2)
   rw[←take_split3 cs 1 1 1 hl] at this;exact this
  ·simp only[DaD.size,List.map_cons,List.map_nil,Rows.uptoBulk,Rows.uptoBulkAll];omega
theorem rdAsk (n:Nat) (cs:List Value) (x:DataW H×List MemPlace) (h:rd enc W sp hd n 28 cs=some x):∃ (ds:List DaD) (t:TyD) (l:List PaD),Rd W [.slice (ds.map DaD.enc),.str t.name,.slice (t.args.map TyD.enc),.slice (l.map PaD.enc)] cs∧datSizes ds+t.size+PaD.sizes l+1≤Rows.uptoBulk x.1:=by
 obtain ⟨xs,m,rfl,rfl,hl,hlen,hf⟩:=DataW.trod_struct Tryz.underlying28 h
 match xs,hlen with
 |[y0,y1,y2],_ =>
  have h0:rd enc W sp hd m 22 ((cs.drop 0).take (Tryz.prog.cellsOf 22))=some y0:=hf 0 _ rfl;rw[k22] at h0;have h1:rd enc W sp hd m 25 ((cs.drop 1).take (Tryz.prog.cellsOf 25))=some y1:=hf 1 _ rfl;rw[k25] at h1;have h2:rd enc W sp hd m 26 ((cs.drop 3).take (Tryz.prog.cellsOf 26))=some y2:=hf 2 _ rfl;rw[k26] at h2;obtain ⟨ds,r0,b0⟩:=rdSlice DaD.enc DaD.size Tryz.underlying22 k116 (by omega) (fun a=>rfl) (fun m' _=>rdDa m') h0;obtain ⟨t,r1,b1⟩:=rdTy _ _ _ h1;obtain ⟨l,r2,b2⟩:=rdSlice PaD.enc PaD.size Tryz.underlying26 k30 (by omega) (fun a=>by rw[a.enc_eq];rfl) (fun m' _=>rdPa m') h2;rw[k28] at hl;rw[tot_da] at b0;rw[tot_pa] at b2;refine ⟨ds,t,l,?_,?_⟩
  ·have:=r0.append (r1.append r2)
   rw[←take_split3 cs 1 2 1 hl] at this;rw[t.enc_eq] at this;exact this
  ·simp only[List.map_cons,List.map_nil,Rows.uptoBulk,Rows.uptoBulkAll];omega
end
end Go.Proofs.YtkmnkiekmlcfdaaGreatDoor
end
section
namespace Go.Proofs.YtkmnkiekmlcfdaaGreatDoor
open Go.AM Go.RowKit
theorem cell_zero:((begin Tryz.prog (fun _ _=>0) default).world.heap[0]?).bind Obj.row?=some (#[.int .i64 0],3):=by kernel_rfl
theorem rdIf {H:Type} {enc:TypeId×Value→H} {P:Program} {W:World} {b:Nat} {sp:Nat→Bool} {hd:Bool} {n t:Nat} {cs:List Value} {x} {ms} (ht:P.underlying t=some (.interface ms)) (h:DataW.trod enc P W b sp hd n t cs=some x):∃ v,cs=[v]∧(v=.nilIface∨∃ u y,v=.iface u y):=by
 cases n with
 |zero=>simp [DataW.trod] at h
 |succ n =>
  unfold DataW.trod at h;rw[ht] at h
  split at h <;> simp_all
theorem laid_at {P:Program} {W:World}:∀ {l:List (String×DataW Unit)} {ps:List MemPlace},DataW.LaidVars P W l ps→∀ (i:Nat) (n:String) (d:DataW Unit),l[i]?=some (n,d) →
  ∃ g t cs fuel p,P.globalNamed n=some g∧(P.globals[g]?).map (·.type)=some t∧W.var? P n=some cs∧DataW.trod (fun _=>()) P W 0 (fun _=>true) false fuel t cs.toList=some (d,p)
 |(m,e)::r,ps,h,i,n,d,hi=>by
  obtain ⟨g,t,cs,fuel,p,q,h1,h2,h3,h4,h5,_⟩:=h;cases i with
  |zero=>simp at hi;obtain ⟨rfl,rfl⟩:=hi;exact ⟨g,t,cs,fuel,p,h1,h2,h3,h4⟩
  |succ i=>exact laid_at h5 i n d (by simpa using hi)
theorem gSyn:Tryz.prog.globalNamed "strconv.ErrSyntax"=some 1:=by kernel_rfl
theorem gRng:Tryz.prog.globalNamed "strconv.ErrRange"=some 2:=by kernel_rfl
theorem gPow:Tryz.prog.globalNamed "internal/strconv.uint64pow10"=some 5:=by kernel_rfl
theorem tSyn:(Tryz.prog.globals[1]?).map (·.type)=some 233:=by kernel_rfl
theorem tRng:(Tryz.prog.globals[2]?).map (·.type)=some 233:=by kernel_rfl
theorem tPow:(Tryz.prog.globals[5]?).map (·.type)=some 281:=by kernel_rfl
def powL:List Int:=(List.range 20).map fun i=>((10 ^ i:Nat):Int)
theorem glob {W:World} (hs:W.ShapedOpen Tryz.prog) (hl:laidMet Tryz.prog Rows.matchOrderRow.laid W):Glob (Psi W) where
 maxLen:=by
  obtain ⟨m,hm⟩:=cell_of_shapedOpen_int (g:=0) (t:=3) (k:=.i64) hs (of_decide_eq_true (by kernel_rfl)) cell_zero rfl (by kernel_rfl) (by kernel_rfl) Tryz.underlying3;exact ⟨m,rfl,_,hm,.int _ _⟩
 syn:=by
  obtain ⟨ps,h,_⟩:=hl;obtain ⟨g,t,cs,fuel,p,h1,h2,h3,h4⟩:=laid_at h 5 "strconv.ErrSyntax" _ rfl;obtain rfl:=Option.some.inj (gSyn.symm.trans h1);obtain rfl:=Option.some.inj (tSyn.symm.trans h2);obtain ⟨v,hv,hv2⟩:=rdIf Tryz.underlying233 h4
  have:=World.var?_cell h1 h3 0
  rw[←Array.getElem?_toList,hv] at this;exact ⟨rfl,v,by simpa using this,.opq v hv2⟩
 rng:=by
  obtain ⟨ps,h,_⟩:=hl;obtain ⟨g,t,cs,fuel,p,h1,h2,h3,h4⟩:=laid_at h 4 "strconv.ErrRange" _ rfl;obtain rfl:=Option.some.inj (gRng.symm.trans h1);obtain rfl:=Option.some.inj (tRng.symm.trans h2);obtain ⟨v,hv,hv2⟩:=rdIf Tryz.underlying233 h4
  have:=World.var?_cell h1 h3 0
  rw[←Array.getElem?_toList,hv] at this;exact ⟨rfl,v,by simpa using this,.opq v hv2⟩
 pow:=fun i hi=>by
  obtain ⟨ps,h,_⟩:=hl;have h:=laid_at h 2 "internal/strconv.uint64pow10" (Lib.tabData .u64 powL) (by kernel_rfl);obtain ⟨g,t,cs,fuel,p,h1,h2,h3,h4⟩:=h;obtain rfl:=Option.some.inj (gPow.symm.trans h1);obtain rfl:=Option.some.inj (tPow.symm.trans h2);have hc:=Lib.cells_of_tab Tryz.underlying281 Tryz.underlying218 (by kernel_rfl) (by kernel_rfl) h4
  have:=World.var?_cell h1 h3 i
  rw[←Array.getElem?_toList,hc] at this
  have h5:(powL.map fun z=>Value.int .u64 z)[i]?=some (.int .u64 ((10 ^ i:Nat):Int)):=by
   rw[List.getElem?_map,powL,List.getElem?_map,List.getElem?_range hi];rfl
  rw[h5] at this;exact ⟨rfl,_,this,.int _ _⟩
theorem len5 {W:World} (hl:laidMet Tryz.prog Rows.matchOrderRow.laid W):Len5 W:=by
 obtain ⟨ps,h,_⟩:=hl;obtain ⟨g,t,cs,fuel,p,h1,h2,h3,h4⟩:=laid_at h 2 "internal/strconv.uint64pow10" (Lib.tabData .u64 powL) (by kernel_rfl);obtain rfl:=Option.some.inj (gPow.symm.trans h1);obtain rfl:=Option.some.inj (tPow.symm.trans h2);have hc:=Lib.cells_of_tab Tryz.underlying281 Tryz.underlying218 (by kernel_rfl) (by kernel_rfl) h4
 have hsz:cs.size=20:=by
  have:=congrArg List.length hc
  simpa [powL] using this
 simp only[World.var?,h1,Option.bind_some] at h3
 split at h3
 ·rename_i hh
  cases h3;exact ⟨_,_,_,hh,hsz⟩
 ·cases h3
theorem wsat {W:World} (h:Glob (Psi W)) (h5:Len5 W):WSat (Psi W) W:=⟨h,h5,fun b o c ⟨h1,v,h2,h3⟩=>⟨h1,v,h2,h3.rel⟩⟩
theorem Rd.vrel {W:World} {xs:List AVal} {vs:List Value} (h:Rd W xs vs):VRel (Psi W) [] (.agg xs) (.agg ⟨vs⟩) :=
 .agg xs vs h.len (fun i c hc=>by
  have hi:i < vs.length:=by rw[←h.len];exact (List.getElem?_eq_some_iff.1 hc).1
  exact flat_isCell (h.abs i c _ hc (List.getElem?_eq_getElem hi)).1) (fun i c v h1 h2=>(h.abs i c v h1 h2).2.rel)
theorem below_of_fr {W w':World} {Ψ Ψ':HT} {ow':Own} (h:Fr W Ψ (fun _=>none) w' Ψ' ow'):Below W.heap.size W w':=⟨h.os,h.tape,h.output,h.size,fun k hk=>(h.keep k hk rfl).1⟩
end Go.Proofs.YtkmnkiekmlcfdaaGreatDoor
end
section
namespace Go.Proofs.YtkmnkiekmlcfdaaGreatDoor
open Go.AM Go.RowKit Go.Lib
theorem ownK:ownKnob Tryz.prog.godebug=none:=by kernel_rfl
theorem laidOut:laidOutB Tryz.prog=true:=by kernel_rfl
def flatV:Nat→DataW Unit→List Value
 |0,_=>[]
 |_+1,.lit (.int k z)=>[.int k z]
 |n+1,.agg l=>l.flatMap (flatV n)
 |_,_=>[]
noncomputable def N0:Nat:=(World.settled Tryz.prog default).heap.size
noncomputable def laidWorld (os:Os):World :=
 let N:=(World.settled Tryz.prog os).heap.size
 let w0:=World.holding Tryz.prog os ⟨#[.cells #[.string ⟨#[118,97,108,117,101,32,111,117,116,32,111,102,32,114,97,110,103,101]⟩] 273,.cells #[.string ⟨#[105,110,118,97,108,105,100,32,115,121,110,116,97,120]⟩] 273],#[],[]⟩
 let put (h:Array Obj) (g:Nat) (cs:Array Value):Array Obj:=h.modify g fun
  |.cells _ t frozen=>.cells cs t frozen
  |o=>o
 let h1:=put w0.heap 1 #[.iface 271 (.pointer (some ⟨N+1,0,none⟩))]
 let h2:=put h1 2 #[.iface 271 (.pointer (some ⟨N,0,none⟩))]
 let h3:=put h2 3 (flatV 3 Rows.laid_unicode_utf8_first).toArray
 let h4:=put h3 4 (flatV 3 (Rows.laid_unicode_utf8_acceptRanges (H:=Unit))).toArray
 let h5:=put h4 5 (flatV 3 (Rows.laid_internal_strconv_uint64pow10 (H:=Unit))).toArray
 let h6:=put h5 6 (flatV 3 (Rows.laid_math_bits_deBruijn32tab (H:=Unit))).toArray
 let h7:=put h6 7 (flatV 3 (Rows.laid_math_bits_deBruijn64tab (H:=Unit))).toArray
 { w0 with heap:=h7 }
theorem laid_met (os:Os) (args:Array Value):laidMet Tryz.prog Rows.matchOrderRow.laid ((laidWorld os).forCall (fun _ _=>0) ⟨#[],args,[]⟩).memory :=
 (LaidIn.of_run [1,2,3,4,5,6,7,N0,N0+1] 8 (by kernel_rfl) (by kernel_rfl) (by kernel_rfl) (by kernel_rfl)).met
end Go.Proofs.YtkmnkiekmlcfdaaGreatDoor
end
end
section
namespace Go.Proofs.YtkmnkiekmlcfdaaGreatDoor
open Go.AM
set_option maxRecDepth 100000
set_option maxHeartbeats 1000000
def prO (k:Nat):Prims:=fun f args =>
 bif Nat.beq f 68 then (match args with
  |[.val v]=>bif vOk k v then some (some (.ret (.val v))) else some none
  |_=>some none)
 else none
theorem vOk_form {k:Nat} {v:AVal} (h:vOk k v=true):∃ s z xs,v=.agg [.str s,.int .i64 z,.slice xs]:=by
 unfold vOk at h
 split at h
 ·exact ⟨_,_,_,rfl⟩
 ·cases h
theorem vOk_sub {k:Nat} {s:List UInt8} {z:Int} {xs:List AVal} (h:vOk (k+1) (.agg [.str s,.int .i64 z,.slice xs])=true):∀ x∈xs,vOk k x=true:=by
 simp only[vOk,Bool.and_eq_true,List.all_eq_true] at h;exact h.2
theorem vOk_len {k:Nat} {s:List UInt8} {z:Int} {xs:List AVal} (h:vOk k (.agg [.str s,.int .i64 z,.slice xs])=true):xs.length+1 < big:=by
 cases k with
 |zero=>simp [vOk] at h
 |succ k =>
  simp only[vOk,Bool.and_eq_true] at h
  have:=Nat.le_of_ble_eq_true h.1
  simp only[big];omega
theorem roomJ {α:Type} (l:List α) (h:l.length+1 < big):Nat.ble (l.length+1) room=true:=by
 apply Nat.ble_eq_true_of_le;simp only[room];simp only[big] at h;omega
theorem co68 {k:Nat} {v:AVal} (h:vOk k v=true) (sto:Sto):cfW Tryz.prog ans (prO k) (.fn 68) [.val v] sto=some (.ret (.val v),sto):=by
 obtain ⟨s,z,xs,rfl⟩:=vOk_form h;refine fnP (r:=.ret (.val (.agg [.str s,.int .i64 z,.slice xs]))) ?_ rfl;show (bif vOk k (.agg [.str s,.int .i64 z,.slice xs]) then _ else _)=_;rw[h];rfl
theorem getA (pre ys:List AVal) (y:AVal):(pre++y::ys)[((pre.length:Nat):Int).toNat]?=some y:=by simp
theorem loop68 {k:Nat} (s:List UInt8) (z:Int) (sto:Sto) (a2:Slot) (ys:List AVal):∀ (pre X:List AVal),(pre++ys).length < big→X.length+ys.length+1 < big→(∀ y∈ys,vOk k y=true) →
  ∃ s0 s1 s5 s12 s13 s14 s15,lpW Tryz.prog ans (prO k) 68 (loopOf Tryz.f68 0) ⟨[.dead,.dead,a2,.box [.val (.str s),.val (.int .i64 z),.own 3 X],.dead,.val (.slice (pre++ys)),.val (.int .i64 ((pre++ys).length:Nat)),.val (.int .i64 (pre.length:Nat)),.dead],sto⟩ =
   some (.exit 0,⟨[s0,s1,a2,.box [.val (.str s),.val (.int .i64 z),.own 3 (X++ys)],s5,s12,s13,s14,s15],sto⟩):=by
 induction ys with
 |nil =>
  intro pre X h3 h4 hv;have hlt:=gtI pre;simp only[List.append_nil] at hlt ⊢;iterate 7 apply Exists.intro
  refine tJ rfl ?_;repeat first|with_reducible constructor|(with_reducible apply tG);kernel_rfl;intro _ _;(repeat apply tOp;intro _;simp only[go_sem];rfl);rfl;simp only[go_sem];rfl|(with_reducible apply t0);rfl;trivial
  exact tlX;all_goals exact .dead
 |cons y ys ih =>
  intro pre X h3 h4 hv;have hy:=hv y (by simp);have hget:=getA pre ys y;have hlt:=ltI pre ys y;have h0:=zI pre.length;have hw:=wL pre ys y h3;have hr:=roomJ X (by simp at h4;omega);have hc:=co68 hy sto;obtain ⟨s1,z1,l1,rfl⟩:=vOk_form hy;obtain ⟨s0,s1,s5,s12,s13,s14,s15,ih⟩:=ih (pre++[.agg [.str s1,.int .i64 z1,.slice l1]]) (X++[.agg [.str s1,.int .i64 z1,.slice l1]]) (by simpa using h3) (by simp at h4 ⊢;omega) (fun x hx=>hv x (by simp [hx]));simp only[List.append_assoc,List.singleton_append] at ih;refine ⟨s0,s1,s5,s12,s13,s14,s15,?_⟩;refine tJ rfl ?_;repeat first|with_reducible constructor|(with_reducible apply tG);kernel_rfl;intro _ _;(repeat apply tOp;intro _;simp only[hget,h0,hw,hr,hc,beq_self_eq_true,slotLok,setElems,clean,flat,List.replicate,List.set_cons_zero,List.set_cons_succ,go_sem];rfl);rfl;simp only[go_sem];rfl|(with_reducible apply t1);rfl;trivial
  exact ih
theorem b68 {k:Nat} {v:AVal} (h:vOk (k+1) v=true):bodyStep Tryz.prog ans (cfW Tryz.prog ans (prO k)) (lpW Tryz.prog ans (prO k)) 68 [.val v] ⟨[],0⟩=some (.ret (.val v),⟨[],0⟩):=by
 obtain ⟨s,z,xs,rfl⟩:=vOk_form h;have hb:=vOk_len h;obtain ⟨s0,s1,s5,s12,s13,s14,s15,hl⟩:=loop68 (k:=k) s z ⟨[],0⟩ (.box [.val (.str []),.val (.int .i64 0),.own 3 []]) xs [] [] (by simpa using Nat.lt_of_succ_lt hb) (by simpa using hb) (vOk_sub h);simp only[List.nil_append,List.length_nil] at hl;have e0:((0:Nat):Int)=0:=rfl;rw[e0] at hl;apply tBody;exact Tryz.func68;rfl;rfl;simp only[go_sem];rfl;refine tQ ?_;repeat first|with_reducible constructor|(with_reducible apply tG);kernel_rfl;intro _ _;(repeat apply tOp;intro _;simp only[go_sem];rfl);rfl;simp only[go_sem];rfl|(with_reducible apply tM);assumption
 exact fin0 rfl
theorem lok_vOk {k:Nat} {v:AVal} (h:vOk k v=true):lok 0 v=true:=by
 obtain ⟨s,z,xs,rfl⟩:=vOk_form h;rfl
theorem p68:∀ (k:Nat),(∀ B0,Env Tryz.prog ans B0 (prO k))∧∀ v,vOk k v=true→PureOK Tryz.prog 68 [v] v:=by
 have env:∀ k,(∀ v,vOk k v=true→PureOK Tryz.prog 68 [v] v)→∀ B0,Env Tryz.prog ans B0 (prO k):=fun k hp B0=>mkEnv fun f args res h=>by
  simp only[prO] at h;cases hf:Nat.beq f 68 with
  |false=>rw[hf] at h;cases h
  |true =>
   obtain rfl:=Nat.eq_of_beq_eq_true hf;rw[hf] at h;simp only[cond_true] at h
   split at h
   ·rename_i v
    cases hv:vOk k v with
    |false=>rw[hv] at h;cases h
    |true =>
     rw[hv] at h;cases h;exact (hp v hv).prim (fun a ha=>by simp at ha;subst ha;exact lok_vOk hv)
   ·cases h
 intro k;induction k with
 |zero =>
  have h0:∀ v,vOk 0 v=true→PureOK Tryz.prog 68 [v] v:=fun v hv=>by simp [vOk] at hv
  exact ⟨env 0 h0,h0⟩
 |succ k ih =>
  have h1:∀ v,vOk (k+1) v=true→PureOK Tryz.prog 68 [v] v:=fun v hv=>PureOK.ofBody ih.1 (b68 hv)
  exact ⟨env (k+1) h1,h1⟩
end Go.Proofs.YtkmnkiekmlcfdaaGreatDoor
end
section
section
namespace Go.Proofs.YtkmnkiekmlcfdaaGreatDoor
open Go.AM Go.RowKit Go.ChangeShapes Go.WideShapes Go.ChangeAt
theorem datSizes_bound:∀ (ds:List DaD),conTot ds≤datSizes ds
 |[]=>Nat.le_refl _
 |d::ds=>by
  have h1:=datSizes_bound ds;have h2:=conSizes_len d.cons;simp only[conTot,datSizes,DaD.size];omega
theorem dsOk {ds:List DaD} (h:datSizes ds < 2097152):DsOk ds where
 len:=by have:=datSizes_len ds;simp only[big];omega
 tot:=by have:=datSizes_bound ds;simp only[big];omega
 ok:=fun d hd=>by
  have h1:=datSizes_mem hd;have h2:=strSizes_len d.vars;have h3:=conSizes_len d.cons;refine ⟨by simp only[DaD.size] at h1;simp only[big];omega,by simp only[DaD.size] at h1;simp only[big];omega,fun c hc=>?_,fun c hc x hx=>?_⟩
  all_goals
   have h4:=conSizes_mem hc;simp only[DaD.size] at h1;simp only[CoD.size] at h4
  ·have:=TyD.sizes_len c.args
   simp only[big];omega
  ·have:=TyD.sizes_mem hx
   simp only[big];omega
theorem post_below {H:Type} {enc:TypeId×Value→H} {P:Program} {f:Func} {s:ChangeSpec} {W W':World} {args:Array Value} {v:Value} {ds gs:List (DataW H)} {before pa pv:List MemPlace}
  (hW:DataW.Whole enc P f.params.toList s.vars false W args.toList ds gs before) (hb:Below W.heap.size W W')
  (hres:∀ (b:Nat) (sp:Nat→Bool) (hd:Bool),DataW.TrodAll enc P W' b sp hd f.resultTypes.toList (v.resultList f.resultTypes.size) (s.fn H (ds++gs)).results [])
  (hargs:∀ sp:Nat→Bool,(∀ p∈before,sp p.block=true)→DataW.TrodAll enc P W' 0 sp true f.params.toList args.toList (s.fn H (ds++gs)).args pa)
  (hvars:∀ sp:Nat→Bool,(∀ p∈before,sp p.block=true)→DataW.TrodVars enc P W' sp s.vars (s.fn H (ds++gs)).vars pv)
  (hps:before=pa++pv)
  (hok:∀ (j:Nat) (t:TypeId) (r:Value),f.resultTypes[j]?=some t→(v.resultList f.resultTypes.size)[j]?=some r→Value.okWide P W' .any 0 t r) :
  s.post enc P f false true false false W args v W':=by
 have hold:∀ p∈before,(fun b=>decide (b < W.heap.size)) p.block=true:=fun p hp=>by simpa using hW.lt p hp
 refine ⟨ds,gs,before,[],pa,pv,hW,hres _ _ _,hargs _ hold,hvars _ hold,hb.frame _,fun h=>?_⟩;cases h
end Go.Proofs.YtkmnkiekmlcfdaaGreatDoor
end
section
namespace Go.Proofs.YtkmnkiekmlcfdaaGreatDoor
open Go.AM
set_option maxRecDepth 100000
theorem hmul (n:Nat) (u:World) (hn:n≤16):Calls Tryz.prog 178 #[.int .u64 1,.int .u64 n] u fun e w'=>e=.returned (.tuple #[.int .u64 0,.int .u64 n])∧w'=u:=by
 have h:=Tryz.bits_Mul 1 n (by omega) (by omega) u;have e1:1 * n / 18446744073709551616=0:=by omega
 have e2:1 * n % 18446744073709551616=n:=by omega
 rw[e1,e2] at h;exact h
theorem envF (B0:Nat):Env Tryz.prog ans B0 (prims kdF):=mkEnv fun f args res h=>by
 unfold prims at h;cases h1:Nat.beq f 163 with
 |true =>
  obtain rfl:=Nat.eq_of_beq_eq_true h1;simp only[h1,cond_true] at h
  split at h
  ·rename_i s
   cases h;exact (p163 s).prim (by simp [lok,lokF])
  ·cases h
 |false =>
 simp only[h1,cond_false] at h;cases h2:Nat.beq f 106 with
 |true =>
  obtain rfl:=Nat.eq_of_beq_eq_true h2;simp only[h2,cond_true] at h
  split at h
  ·rename_i xs
   cases hx:rowsOk 1 xs with
   |false=>rw[hx] at h;cases h
   |true =>
    rw[hx] at h;cases h;exact (p106 hx).prim (by simp [lok,lokF])
  ·cases h
 |false =>
 simp only[h2,cond_false] at h;cases h3:Nat.beq f 150 with
 |true =>
  obtain rfl:=Nat.eq_of_beq_eq_true h3;simp only[h3,cond_true] at h
  split at h
  ·rename_i xs
   cases hx:rowsOk 3 xs with
   |false=>rw[hx] at h;cases h
   |true =>
    rw[hx] at h;cases h;exact (p150 hx).prim (by simp [lok,lokF])
  ·cases h
 |false =>
 simp only[h3,cond_false] at h;cases h4:Nat.beq f 68 with
 |true =>
  obtain rfl:=Nat.eq_of_beq_eq_true h4;simp only[h4,cond_true] at h
  split at h
  ·rename_i v
   cases hv:vOk 200 v with
   |false=>rw[hv] at h;cases h
   |true =>
    rw[hv] at h;cases h;exact ((p68 200).2 v hv).prim (fun a ha=>by simp at ha;subst ha;exact lok_vOk hv)
  ·cases h
 |false =>
 simp only[h4,cond_false] at h;cases h5:Nat.beq f 174 with
 |true =>
  obtain rfl:=Nat.eq_of_beq_eq_true h5;simp only[h5,cond_true] at h
  split at h
  ·rename_i x n
   cases hx:Nat.beq x.cells.length 3&&decide (0≤n)&&decide (n≤16) with
   |false=>rw[hx] at h;cases h
   |true =>
    rw[hx] at h;cases h;simp only[Bool.and_eq_true,decide_eq_true_eq] at hx;obtain ⟨⟨hx,h0⟩,h16⟩:=hx;have hp:=(p174 hmul (Nat.eq_of_beq_eq_true hx) n.toNat (by omega)).prim (ans:=ans) (B0:=B0) (by simp [lok,lokF]);rw[show ((n.toNat:Nat):Int)=n by omega] at hp;exact hp
  ·cases h
 |false=>rw[h5] at h;cases h
end Go.Proofs.YtkmnkiekmlcfdaaGreatDoor
end
section
namespace Go.Proofs.YtkmnkiekmlcfdaaGreatDoor
open Go.AM Go.RowKit Go.ChangeShapes Go.WideShapes Go.ChangeAt
set_option maxRecDepth 100000 in
theorem contractP (E:∀ B0,Env Tryz.prog ans B0 (prims kdF)) (H:Type) (enc:TypeId×Value→H) (W:World) (base:Nat) (args:Array Value) (ds gs:List (DataW H)) (before:List MemPlace)
  (hval:∀ (j:Nat) t v,Tryz.f7.params[j]?=some t→args[j]?=some v→Value.okWide Tryz.prog W .any base t v)
  (hW:DataW.Whole enc Tryz.prog Tryz.f7.params.toList Rows.matchPatternsSpec.vars false W args.toList ds gs before) (hk:Rows.uptoSmall H (ds++gs)=true) (hL:laidMetH Tryz.prog Rows.matchPatternsRow.laid W) (hsh:W.ShapedOpen Tryz.prog) :
  Calls Tryz.prog 7 args W fun e W'=>∃ v,e=.returned v∧Rows.matchPatternsSpec.post enc Tryz.prog Tryz.f7 false true false false W args v W':=by
 have hW':=hW;obtain ⟨p,q,hA0,hV,rfl,hfz,hnd⟩:=hW;have hA:DataW.TrodAll enc Tryz.prog W 0 (fun _=>true) true Tryz.f7.params.toList args.toList ds p:=hA0;rw[Tryz.params7] at hA hval;obtain ⟨v0,vs0,d0,ds0,p0,q0,hargs,rfl,rfl,h0,r0⟩:=trodAll_cons hA;obtain ⟨v1,vs1,d1,ds1,p1,q1,rfl,rfl,rfl,h1,r1⟩:=trodAll_cons r0;obtain ⟨rfl,rfl,rfl⟩:=trodAll_nil r1;obtain rfl:args=#[v0,v1]:=Array.toList_inj.1 hargs;obtain ⟨rfl,rfl⟩:=trodVars_none hV;have ok0:=hval 0 28 v0 (by kernel_rfl) (by simp);have ok1:=hval 1 30 v1 (by kernel_rfl) (by simp);simp only[Value.okWide,Tryz.underlying28] at ok0;simp only[Value.okWide,Tryz.underlying30] at ok1;obtain ⟨cs0,rfl,_,_⟩:=ok0;obtain ⟨cs1,rfl,_,_⟩:=ok1;have h0k:=h0;have h1k:=h1;obtain ⟨f0,h0⟩:=h0;obtain ⟨f1,h1⟩:=h1;obtain ⟨D,T,L,hr0,hb0⟩:=rdAsk f0 _ _ h0;obtain ⟨pa,hr1,hb1⟩:=rdPa f1 _ _ h1;clear hA0;simp only[List.append_nil] at hW' hk;have hsm:Rows.uptoBulkAll [d0,d1]≤1048576:=of_decide_eq_true hk;simp only[Rows.uptoBulkAll] at hsm;simp only at hb0 hb1;have hgl:=glob hsh hL;have hD:=datSizes_bound D;have h32:=c32 (kd:=kdF) pa (by simp only[big];omega) ⟨[],0⟩ (Nat.le_refl _);have hc:=c7 (kd:=kdF) (dsOk (ds:=D) (by omega)) (by simp only[big];omega) T (by simp only[big];omega) pa (by simp only[big];omega) L (by simp only[big];omega) kdF_fun ⟨[],0⟩ (Nat.le_refl _) c13 h32
 have hpre:CallPre ans W.heap.size W (Psi W) [] (fun _=>none) [.val (askE D T L),.val pa.enc] #[.agg cs0,.agg cs1] ⟨[],0⟩:=by
  refine ⟨wsat hgl (len5 hL),Nat.le_refl _,fun b h=>absurd rfl h,rfl,fun s hs=>?_,fun i s hi=>?_,⟨rfl,fun i o h=>by simp at h⟩,Nat.le_refl _⟩
  ·simp at hs;rcases hs with rfl|rfl <;> rfl
  ·match i,hi with
   |0,hi=>cases hi;exact .val _ _ hr0.vrel
   |1,hi =>
    cases hi
    have:=hr1.vrel
    rw[pa.enc_eq] at this ⊢;exact .val _ _ this
 refine (cfW_calls (E W.heap.size) rfl hc hpre).mono fun e W' h=>?_
 obtain ⟨Ψ',ρ',ow',hfr,_,v,rfl,hs⟩:=h
 have hv:v=.bool true:=by
  cases hs with
  |val x v h=>cases h;rfl
 subst hv;have hbel:=below_of_fr hfr;have hlt:∀ x∈p0++(p1++[]),x.block < W.heap.size:=fun x hx=>hW'.lt x (by simpa using hx)
 refine ⟨_,rfl,post_below (pa:=p0++(p1++[])) (pv:=[]) hW' hbel (fun _ _ _=>trodAll_cons_mk (shut_bool Tryz.underlying4 _) trodAll_mk0) (fun sp hsp=>?_) (fun _ _=>rfl) (by simp) (ok_one (by kernel_rfl) rfl (okWide_bool_mk Tryz.underlying4 _))⟩
 exact trodAll_cons_mk (WideElems.Trod_stays laidOut (by kernel_rfl) (of_decide_eq_true (by kernel_rfl)) h0k (fun x hx=>hbel.same (hlt x (by simp [hx]))) (fun x hx=>hsp x (by simp [hx])))
  (trodAll_cons_mk (WideElems.Trod_stays laidOut (by kernel_rfl) (of_decide_eq_true (by kernel_rfl)) h1k (fun x hx=>hbel.same (hlt x (by simp [hx]))) (fun x hx=>hsp x (by simp [hx])))
   trodAll_mk0)
noncomputable abbrev wArgsP:Array Value:=#[.agg #[.slice none 0 0,.string ⟨#[]⟩,.slice none 0 0,.slice none 0 0],.agg #[.int .i64 0,.string ⟨#[]⟩,.slice none 0 0]]
theorem witness_rowP (os:Os) {H:Type} (enc:TypeId×Value→H) :
  (Rows.OpenSpec.upto Rows.matchPatternsSpec).preRow enc Tryz.prog Tryz.f7 Rows.matchPatternsUptoRow.domain false Rows.matchPatternsUptoRow.laid ((laidWorld os).forCall (fun _ _=>0) ⟨#[],wArgsP,[]⟩).memory wArgsP:=by
 have hw:(DataW.whole enc Tryz.prog ((laidWorld os).forCall (fun _ _=>0) ⟨#[],wArgsP,[]⟩).memory Tryz.f7.params.toList Rows.matchPatternsSpec.vars false wArgsP.toList 8).map (fun x=>(x.1,x.2.1)) =
   some ([.agg [.nil,.agg [.lit (.string []),.nil],.nil],.agg [.lit (.int .i64 0),.lit (.string []),.nil]],[]):=by kernel_rfl
 obtain ⟨⟨x1,x2,x3⟩,hx,hx1⟩:=Option.map_eq_some_iff.1 hw;simp only[Prod.mk.injEq] at hx1;obtain ⟨rfl,rfl⟩:=hx1;exact OpenSpec.preRow_of_cond 8 hx (by kernel_rfl) (fun k hk=>by cases hk;kernel_rfl) (by kernel_rfl) (laid_met os _)
set_option maxRecDepth 100000 in
theorem liftedP (E:∀ B0,Env Tryz.prog ans B0 (prims kdF)) (os:Os) (started:os.Started) (H:Type) (enc:TypeId×Value→H) (F:Stop.Interp) :
  ReturnsInHanded {} Tryz.checked os 7 .any ((Rows.OpenSpec.upto Rows.matchPatternsSpec).preRow enc Tryz.prog Tryz.f7 Rows.matchPatternsUptoRow.domain false Rows.matchPatternsUptoRow.laid) (((Rows.OpenSpec.upto Rows.matchPatternsSpec).at F).post enc Tryz.prog Tryz.f7 false true false false):=by
 refine returnsInHanded_of_row (C:=Tryz.checked) (s:=Rows.OpenSpec.upto Rows.matchPatternsSpec) ownK started (by kernel_rfl) Tryz.func7
  (witness_row_atRef (enc:=enc) (C:=Tryz.checked) false (laidWorld os) wArgsP rfl (by kernel_rfl) (by kernel_rfl) (by kernel_rfl) (witness_rowP os enc)) ?_
 intro W base args ds gs before hval hW _ hcond _ hL hsh _;exact contractP E H enc W base args ds gs before hval hW (hcond _ rfl) hL hsh
theorem saidP (E:∀ B0,Env Tryz.prog ans B0 (prims kdF)):Rows.MatchPatternsUptoSaid :=
 OpenClaim.holds_of_cond 7 Tryz.f7 rfl rfl rfl rfl rfl rfl rfl ⟨rfl,rfl,rfl,rfl,rfl⟩ rfl rfl rfl rfl rfl (by kernel_rfl) Tryz.func7 (by kernel_rfl)
  (of_decide_eq_true (by kernel_rfl)) (by unfold Func.isWrapper;first|(rw[if_pos (by decide +kernel)];kernel_rfl)|(rw[if_neg (by decide +kernel)];exact ⟨rfl,rfl⟩))
  (fun os started H enc _ F=>by rw[OpenClaim.pre_eq_preRow];exact liftedP E os started H enc F)
theorem plainP (f:FuncId) (fn:Func) (hf:Tryz.pinned.checked.prog.funcNamed "restitch/restitchlaw05.MatchPatterns"=some f) (hfn:Tryz.pinned.checked.prog.funcs[f]?=some fn) :
  true=Tryz.pinned.checked.prog.looks []∧∀ (j:Nat) t,fn.params[j]?=some t→Tryz.pinned.checked.prog.wantsStandIn t=false:=by
 obtain rfl:f=7:=Option.some.inj ((show Tryz.prog.funcNamed "restitch/restitchlaw05.MatchPatterns"=some 7 by kernel_rfl).symm.trans hf) |>.symm;obtain rfl:fn=Tryz.f7:=(Option.some.inj (Tryz.func7.symm.trans hfn)).symm;refine ⟨by kernel_rfl,fun j t ht=>?_⟩;rw[Tryz.params7] at ht
 have:=Array.mem_of_getElem? ht
 simp only[List.mem_toArray,List.mem_cons,List.not_mem_nil,or_false] at this;rcases this with rfl|rfl
 ·exact (show Tryz.prog.wantsStandIn 28=false by kernel_rfl)
 ·exact (show Tryz.prog.wantsStandIn 30=false by kernel_rfl)
theorem cardP (E:∀ B0,Env Tryz.prog ans B0 (prims kdF)):Rows.MatchPatternsUptoCardSaid :=
 Claim7.holds_tied_plain_at .later [] _ _ _ _ (saidP E) (fun _ h=>by cases h) (by kernel_rfl) (fun _ h=>by cases h) matchPatternsUpto_row_tie rfl ⟨rfl,rfl⟩ (by kernel_rfl) rfl plainP (by kernel_rfl)
theorem match_patterns:Rows.MatchPatternsUptoCardSaid:=cardP envF
end Go.Proofs.YtkmnkiekmlcfdaaGreatDoor
end
end
