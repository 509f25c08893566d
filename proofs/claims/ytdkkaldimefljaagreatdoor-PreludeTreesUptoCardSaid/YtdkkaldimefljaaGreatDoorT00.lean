import Derived.Test.YtdkkaldimefljaaGreatDoorA13
import Derived.Test.YtdkkaldimefljaaGreatDoorC11
import Derived.Test.YtdkkaldimefljaaGreatDoorA00
import Derived.Test.YtdkkaldimefljaaGreatDoorProg
import Derived.Test.YtdkkaldimefljaaGreatDoorA14
import Derived.KernelRfl
set_option linter.all false
section
namespace Go.AM
open Go.RowKit
variable {P:Program} {ans:FuncId→Ann} {B0:Nat}
def PureT (P:Program) (f:FuncId) (args res:List AVal):Prop :=
 (∃ F,P.funcs[f]?=some F∧F.body.isSome=true)∧∀ (w:World) (Ψ:HT) (vs:Array Value),WSat Ψ w→args.length=vs.size→(∀ (i:Nat) a,args[i]?=some a→VRel Ψ [] a (vs.getD i undef)) →
  ∀ c cs,∃ w' Ψ' us,Fr w Ψ (fun _=>none) w' Ψ' (fun _=>none)∧WSat Ψ' w'∧res.length=us.length∧(∀ (i:Nat) x u,res[i]?=some x→us[i]?=some u→VRel Ψ' [] x u)∧Steps P (lone (Frame.enter P f vs .normal) (c::cs) w) (lone (c.finish (.tuple ⟨us⟩)) cs w')
theorem PureT.prim {f:FuncId} {args res:List AVal} (h:PureT P f args res) (hl:∀ a∈args,lok 0 a=true):(∃ F,P.funcs[f]?=some F∧F.body.isSome=true) ∧
  ∀ sto w Ψ ρ ow vs,eA ans B0 w Ψ ρ ow (args.map .val) vs sto→∀ c cs,eE P ans B0 w Ψ ρ ow sto c cs (lone (Frame.enter P f vs .normal) (c::cs) w) (.ret (.tup res)) sto:=by
 refine ⟨h.1,fun sto w Ψ ρ ow vs hp c cs=>?_⟩
 obtain ⟨w',Ψ',us,hf,hw,hlen,hv,hs⟩:=h.2 w Ψ vs hp.wsat (by simpa using hp.size) (fun i a ha=>by
  have h1:=hp.args i (.val a) (by simp [ha]);have h2:=hl a (List.mem_of_getElem? ha);cases h1 with
  |val _ _ h1=>simpa using h1.lok h2) c cs
 have hfr:Fr w Ψ ow w' Ψ' ow:=⟨hf.le,hf.size,fun b hb _=>hf.keep b hb rfl,fun b hb=>.inl hb,hf.os,hf.tape,hf.output⟩
 refine ⟨w',Ψ',ρ,ow,hfr,aG _,hw,hp.objs.mono hf.le fun i _ b s hb=>?_,fun b hb=>Nat.lt_of_lt_of_le (hp.lt b hb) hf.size,⟨rfl,Nat.le_refl _,fun _ _=>rfl⟩,rfl,_,.tup _ _ hlen (fun i x u h1 h2=>(hv i x u h1 h2).mono (HT.le_refl _) (pre_nil _)),hs⟩;have hb':=hp.lt b (by simp [hb])
 have:=hf.keep b hb' rfl
 exact ⟨hb,this.1,fun o ho=>by rw[this.2 o];exact ho⟩
mutual
def TyD.v:TyD→CM.V
 |.mk n al=>.tup (.str n.length (CM.packL n)::TyD.vs al)
def TyD.vs:List TyD→List CM.V
 |[]=>[]
 |t::ts=>t.v::TyD.vs ts
end
theorem TyD.vs_eq (l:List TyD):TyD.vs l=l.map TyD.v:=by
 induction l with
 |nil=>simp [TyD.vs]
 |cons t ts ih=>simp [TyD.vs,ih]
def lev (Ψ:HT) (B:Nat) (w:World):Nat→HT
 |0=>Ψ
 |n+1=>fun b o c=>lev Ψ B w n b o c∨(B≤b∧flat c=true∧∃ v,w.cell? ⟨b,o,none⟩=some v∧VRel (lev Ψ B w n) [] c v)
variable {Ψ:HT} {B:Nat} {w w':World}
theorem pj (n:Nat):(lev Ψ B w n).le (lev Ψ B w (n+1)):=fun _ _ _ h=>.inl h
theorem aB5:∀ n,Ψ.le (lev Ψ B w n)
 |0=>HT.le_refl _
 |n+1=>HT.le_trans (aB5 n) (pj n)
theorem vz:∀ (n:Nat) {b:Nat},b < B→∀ o,lev Ψ B w n b o=Ψ b o
 |0,b,_,o=>rfl
 |n+1,b,hb,o=>by
  funext c;have ih:=congrFun (vz n hb o) c;show (lev Ψ B w n b o c∨_)=_;rw[ih];exact propext ⟨fun h=>h.elim id fun h=>absurd h.1 (by omega),.inl⟩
theorem ry (h:WSat Ψ w):∀ n,WSat (lev Ψ B w n) w
 |0=>h
 |n+1=>⟨h.size8,fun b o c e=>by
  rcases e with e|⟨_,h1,v,h2,h3⟩
  ·obtain ⟨h1,v,h2,h3⟩:=(ry h n).sat b o c e
   exact ⟨h1,v,h2,h3.mono (pj n) (aG _)⟩
  ·exact ⟨h1,v,h2,h3.mono (pj n) (aG _)⟩⟩
open CM in
theorem fq {w0:World} {ρ:Rho} {h:T O} {nx:Q} {f:Nat} (H:HR P w0 ρ h nx w) {o:Q} {off len k b N cap:Nat} {t:T V} {al:List TyD} (ho:ρ o=some (b,N)) (hr:CM.rowAt (h.get O.dead o)=some (k,t)) (hk:Nat.ble (off+2 * len) k=true) (hc:len≤cap)
  (ih:∀ (x:V) (u:Value) (t:TyD),VR ρ x u→rdTy f h x=t.v→VRel (lev Ψ w0.heap.size w f) [] t.enc u)
  (e:(List.range len).map (fun i=>rdTy f h (.agg [t.get V.undef (qn (off+2 * i)),t.get V.undef (qn (off+2 * i+1))]))=TyD.vs al) :
  VRel (lev Ψ w0.heap.size w (f+1)) [] (.slice (TyD.encs al)) (.slice (some ⟨b,off,none⟩) len cap):=by
 rw[TyD.vs_eq] at e;rw[TyD.encs_eq];have hlen:al.length=len:=by have:=congrArg List.length e;simpa using this.symm
 have hk':=Nat.le_of_ble_eq_true hk
 have hrow:∃ anc flo ty ex,h.ob o=.row k t anc flo ty ex:=by
  have:CM.rowAt (h.ob o)=some (k,t):=hr
  unfold CM.rowAt at this
  split at this
  ·rename_i n t' anc flo ty ex he
   cases this;exact ⟨_,_,_,_,he⟩
  ·cases this
 have hB:w0.heap.size≤b:=by
  have:=H.obj o b N ho
  obtain ⟨anc,flo,ty,ex,he⟩:=hrow;rw[he] at this;cases this with
  |row _ _ _ _ _ _ _ _ vs hb=>exact hb
 refine .slice _ _ _ _ 2 (by simpa using hlen) hc fun i x hx=>?_
 rw[List.getElem?_map,Option.map_eq_some_iff] at hx;obtain ⟨ti,hti,rfl⟩:=hx;have hi:i < len:=by rw[←hlen];exact (List.getElem?_eq_some_iff.1 hti).1
 have ei:rdTy f h (.agg [t.get V.undef (qn (off+2 * i)),t.get V.undef (qn (off+2 * i+1))])=ti.v:=by
  have:=congrArg (fun l=>l[i]?) e
  simpa [hi,hti] using this
 obtain ⟨v0,g0,r0,k0⟩:=H.cell (off:=off+2 * i) ho (.inl hrow) (by omega);obtain ⟨v1,g1,r1,k1⟩:=H.cell (off:=off+2 * i+1) ho (.inl hrow) (by omega)
 have hv:VR ρ (.agg [t.at (off+2 * i),t.at (off+2 * i+1)]) (.agg ⟨[v0,v1]⟩):=by
  refine .agg _ _ rfl (fun c hc=>?_) (fun j c v hc hv=>?_)
  ·simp only[List.mem_cons,List.not_mem_nil,or_false] at hc
   rcases hc with rfl|rfl <;> assumption
  ·match j with
   |0=>cases hc;cases hv;exact r0
   |1=>cases hc;cases hv;exact r1
   |j+2=>simp at hc
 have hrel:=ih _ _ ti hv ei;obtain ⟨nm,l⟩:=ti;simp only[TyD.enc] at hrel ⊢;obtain ⟨c1,c2,c3⟩:=hrel.cells;refine ⟨rfl,b,off,rfl,fun j c hj=>?_⟩
 match j with
 |0 =>
  cases hj;refine .inr ⟨hB,rfl,v0,?_,c3 0 _ _ rfl rfl⟩;rw[show off+i * 2+0=off+2 * i by omega];exact g0
 |1 =>
  cases hj;refine .inr ⟨hB,rfl,v1,?_,c3 1 _ _ rfl rfl⟩;rw[show off+i * 2+1=off+2 * i+1 by omega];exact g1
 |j+2=>simp [AVal.cells] at hj
open CM in
theorem jo {w0:World} {ρ:Rho} {h:T O} {nx:Q} (H:HR P w0 ρ h nx w):∀ (f:Nat) (x:V) (u:Value) (t:TyD),VR ρ x u→rdTy f h x=t.v→VRel (lev Ψ w0.heap.size w f) [] t.enc u
 |0,x,u,⟨nm,al⟩,_,e=>by simp only[rdTy,TyD.v] at e;cases e
 |f+1,x,u,⟨nm,al⟩,hx,e=>by
  have ih:=jo H f;simp only[rdTy,TyD.v] at e
  split at e
  case h_2=>cases e
  rename_i l n s;obtain ⟨us,rfl,hus,_⟩:=hx.inv_agg;obtain ⟨u0,us1,rfl,r0,hus1⟩:=hus.inv_cons;obtain ⟨u1,us2,rfl,r1,hus2⟩:=hus1.inv_cons;obtain rfl:=hus2.inv_nil;obtain ⟨s1,rfl,hl,hn⟩:=r0.inv_str
  have fin:∀ {rest:List V},V.tup (.str l n::rest)=.tup (.str nm.length (packL nm)::TyD.vs al)→s1=nm∧rest=TyD.vs al:=fun h=>by
   simp only[V.tup.injEq,List.cons.injEq,V.str.injEq] at h;exact ⟨mR (by rw[hl,h.1.1]) (by rw[hn,h.1.2]),h.2⟩
  have done:s1=nm→VRel (lev Ψ w0.heap.size w (f+1)) [] (.slice (TyD.encs al)) u1→VRel (lev Ψ w0.heap.size w (f+1)) [] (TyD.mk nm al).enc (.agg ⟨[.string ⟨⟨s1⟩⟩,u1]⟩):=fun h1 h2=>by
   subst h1;simp only[TyD.enc];refine .agg _ _ rfl (fun i c hc=>?_) (fun i c v hc hv=>?_)
   ·match i with
    |0=>cases hc;rfl
    |1=>cases hc;rfl
    |i+2=>simp at hc
   ·match i with
    |0=>cases hc;cases hv;exact .str _
    |1=>cases hc;cases hv;exact h2
    |i+2=>simp at hc
  have empty:[]=TyD.vs al→al=[]:=fun h=>by
   cases al with
   |nil=>rfl
   |cons a l=>simp [TyD.vs] at h
  split at e
  ·obtain ⟨h1,h2⟩:=fin e
   obtain rfl:=empty h2;cases r1;exact done h1 (.slice _ _ _ _ 2 rfl (Nat.le_refl _) fun i x hx=>by simp [TyD.encs] at hx)
  ·obtain ⟨h1,h2⟩:=fin e
   obtain rfl:=empty h2;cases r1;exact done h1 (.slice _ _ _ _ 2 rfl (Nat.zero_le _) fun i x hx=>by simp [TyD.encs] at hx)
  ·rename_i o off len cap
   split at e
   case h_2=>cases e
   rename_i k t hr
   split at e
   case h_2=>cases e
   rename_i hk;obtain ⟨h1,h2⟩:=fin e;cases r1 with
   |sl _ _ _ _ b N ho hc=>exact done h1 (fq H ho hr hk hc ih h2)
  ·rename_i o off len sz
   split at e
   case h_2=>cases e
   rename_i k t hr
   split at e
   case h_2=>cases e
   rename_i hk;obtain ⟨h1,h2⟩:=fin e;cases r1 with
   |su _ _ _ _ b N cap ho hc hrest=>exact done h1 (fq H ho hr hk hc ih h2)
  ·cases e
end Go.AM
end
section
namespace Go.Proofs.YtdkkaldimefljaaGreatDoor
open Go.AM
def aH:Ann:={ nt:=0,keep:=[],loc:=[],take:=[],pure:=[],heads:=[],ownRes:=false,ownArg:=[] }
def annTab:List Ann:=[
 aH,
 aH,
 aH,
  { nt:=98,keep:=[0,1,4,5,6,7,8,9,10,11,12,13,49,68],loc:=[7,8,9,11,13],take:=[],pure:=[],heads:=[],ownRes:=false,ownArg:=[] },
 aH,
 aH,
  { nt:=120,keep:=[0,1,2,3,4,5,7,9,10,12,13,14,15,16,17,82],loc:=[2,4,6,8,10,13,15],take:=[],pure:=[],heads:=[],ownRes:=false,ownArg:=[],prim:=true },
  { nt:=11,keep:=[0,2,5],loc:=[],take:=[],pure:=[],heads:=[],ownRes:=false,ownArg:=[] },
  { nt:=6,keep:=[0,2],loc:=[2],take:=[],pure:=[],heads:=[],ownRes:=false,ownArg:=[] },
  { nt:=20,keep:=[0,2,3,4,8],loc:=[],take:=[(5,0)],pure:=[],heads:=[(3,[(0,none),(3,none),(4,none)])],ownRes:=false,ownArg:=[] },
  { nt:=17,keep:=[0,1,4,5,6,14],loc:=[4,5],take:=[],pure:=[],heads:=[],ownRes:=false,ownArg:=[] },
  { nt:=22,keep:=[0,1,4,5,6,10,18],loc:=[],take:=[],pure:=[],heads:=[(3,[(0,none),(1,none),(5,none),(6,none)])],ownRes:=false,ownArg:=[] },
  { nt:=46,keep:=[0,1,2,3,4,5,26,31,45],loc:=[2,3],take:=[],pure:=[],heads:=[(4,[(2,none),(3,none),(5,none)])],ownRes:=false,ownArg:=[] },
 aH,
 aH,
 aH,
 aH,
 aH,
  { nt:=33,keep:=[0,1,4,5,6,7,12,28],loc:=[7],take:=[],pure:=[],heads:=[],ownRes:=false,ownArg:=[],prim:=true },
 aH,
 aH,
 aH,
  { nt:=27,keep:=[0,1,2,3,5,12,13,14,15],loc:=[1,2,3,5],take:=[(5,1)],pure:=[],heads:=[(3,[(2,none),(3,none),(12,none),(13,none),(14,none)])],ownRes:=false,ownArg:=[] },
  { nt:=16,keep:=[0,2,3,5,8,9,10],loc:=[2,5],take:=[],pure:=[],heads:=[],ownRes:=false,ownArg:=[] },
  { nt:=6,keep:=[0,1,2,3,5],loc:=[],take:=[],pure:=[],heads:=[],ownRes:=false,ownArg:=[] },
 aH,
  { nt:=33,keep:=[0,1,4,5,7,10,32],loc:=[5],take:=[],pure:=[],heads:=[],ownRes:=false,ownArg:=[] },
 aH,
 aH,
  { nt:=21,keep:=[0,1,2,3,5,7,8,9,10,18],loc:=[1,5],take:=[],pure:=[],heads:=[(3,[(3,none),(7,none),(8,none),(9,none)])],ownRes:=false,ownArg:=[] },
 aH,
 aH,
 aH,
 aH,
 aH,
 aH,
  { nt:=31,keep:=[0,2,3,5,6,8,9,10,11,12,18],loc:=[2,5,6],take:=[],pure:=[],heads:=[(2,[(0,none),(2,none),(9,none),(10,none),(11,none)])],ownRes:=false,ownArg:=[],prim:=true },
 aH,
  { nt:=8,keep:=[0,1,4],loc:=[4],take:=[],pure:=[],heads:=[],ownRes:=false,ownArg:=[] },
  { nt:=4,keep:=[0,1,2],loc:=[],take:=[],pure:=[],heads:=[],ownRes:=false,ownArg:=[] },
  { nt:=85,keep:=[0,1,4,5,6,17,22,30,40,71,72,73,83],loc:=[],take:=[],pure:=[],heads:=[(13,[(0,none),(1,none),(71,none),(72,none)])],ownRes:=false,ownArg:=[] },
  { nt:=17,keep:=[0,2,3,4],loc:=[3],take:=[],pure:=[],heads:=[],ownRes:=false,ownArg:=[],prim:=true },
  { nt:=19,keep:=[0,1,2,3,6],loc:=[1],take:=[(3,0)],pure:=[],heads:=[(2,[(1,none),(3,none)])],ownRes:=false,ownArg:=[] },
  { nt:=9,keep:=[0,1,4],loc:=[],take:=[],pure:=[],heads:=[],ownRes:=false,ownArg:=[] },
  { nt:=6,keep:=[0,1,2],loc:=[1],take:=[],pure:=[],heads:=[],ownRes:=false,ownArg:=[] },
  { nt:=22,keep:=[0,1,4,5,6,7,8,9,10,20],loc:=[6],take:=[],pure:=[],heads:=[(2,[(1,none),(7,none),(8,none),(9,none)])],ownRes:=false,ownArg:=[] },
 aH,
 aH,
 aH,
 aH,
  { nt:=6,keep:=[0,2,3],loc:=[2],take:=[],pure:=[],heads:=[],ownRes:=false,ownArg:=[] },
 aH,
 aH,
 aH,
  { nt:=5,keep:=[0,2],loc:=[2],take:=[],pure:=[],heads:=[],ownRes:=false,ownArg:=[] },
 aH,
 aH,
  { nt:=6,keep:=[0,1,2],loc:=[1],take:=[(1,3)],pure:=[],heads:=[],ownRes:=true,ownArg:=[] },
  { nt:=9,keep:=[0,2],loc:=[2],take:=[],pure:=[],heads:=[],ownRes:=false,ownArg:=[] },
 aH,
 aH,
  { nt:=14,keep:=[0,1,2,3,4,6,7],loc:=[1,4],take:=[(4,0)],pure:=[],heads:=[],ownRes:=false,ownArg:=[] },
 aH,
 aH,
 aH,
 aH,
 aH,
 aH,
 aH,
 aH,
 aH,
 aH,
 aH,
 aH,
 aH,
 aH,
 aH,
 aH,
 aH,
 aH,
 aH,
 aH,
  { nt:=13,keep:=[0,1,4],loc:=[2,4],take:=[],pure:=[],heads:=[],ownRes:=false,ownArg:=[] },
  { nt:=42,keep:=[0,1,4,5,6,12,19,30],loc:=[2,4,5],take:=[],pure:=[],heads:=[(2,[(1,none),(4,none),(5,none)])],ownRes:=false,ownArg:=[] },
  { nt:=10,keep:=[0,1,4],loc:=[2,4],take:=[],pure:=[],heads:=[],ownRes:=false,ownArg:=[] },
  { nt:=11,keep:=[0,1,4],loc:=[2,4],take:=[],pure:=[],heads:=[],ownRes:=false,ownArg:=[] },
  { nt:=10,keep:=[0,1,4],loc:=[2,4],take:=[],pure:=[],heads:=[],ownRes:=false,ownArg:=[] },
  { nt:=23,keep:=[0,1,4,5,7,12,13,14,15],loc:=[2,4,5],take:=[],pure:=[],heads:=[(3,[(4,none),(5,none),(12,none),(13,none),(14,none)])],ownRes:=false,ownArg:=[] },
  { nt:=27,keep:=[0,1,4,5,6,12,24],loc:=[2,4,6],take:=[(5,0)],pure:=[],heads:=[(3,[(4,none),(5,none),(6,none)])],ownRes:=false,ownArg:=[] },
  { nt:=21,keep:=[0,1,4,5,7,13,14,15],loc:=[2,4,7],take:=[],pure:=[],heads:=[],ownRes:=false,ownArg:=[] },
 aH,
 aH,
 aH,
 aH,
 aH,
 aH,
 aH,
 aH,
 aH,
 aH,
 aH,
 aH,
 aH,
 aH,
 aH,
 aH,
 aH,
 aH,
  { nt:=19,keep:=[0,1,3,8,18],loc:=[],take:=[],pure:=[],heads:=[(1,[(0,none),(1,none),(3,none)])],ownRes:=false,ownArg:=[] },
  { nt:=6,keep:=[0,2],loc:=[],take:=[],pure:=[],heads:=[],ownRes:=false,ownArg:=[] },
 aH,
 aH,
  { nt:=19,keep:=[0,1,4,5,7,8,9,16],loc:=[],take:=[],pure:=[],heads:=[(2,[(0,none),(1,none),(7,none),(8,none)])],ownRes:=false,ownArg:=[] },
  { nt:=132,keep:=[0,1,2,3,4,5,8,9,14,28,39,63,86,111],loc:=[2],take:=[],pure:=[],heads:=[],ownRes:=false,ownArg:=[] },
  { nt:=5,keep:=[0,2],loc:=[],take:=[(1,2)],pure:=[],heads:=[],ownRes:=true,ownArg:=[] },
  { nt:=4,keep:=[0,1,2],loc:=[],take:=[],pure:=[],heads:=[],ownRes:=false,ownArg:=[] },
 aH,
 aH,
 aH,
 aH,
 aH,
 aH,
 aH,
 aH,
 aH,
 aH,
 aH,
  { nt:=61,keep:=[0,1,3,4,5,8,20,40],loc:=[3,4],take:=[],pure:=[(5,5),(5,15),(7,13),(7,15)],heads:=[],ownRes:=false,ownArg:=[] },
  { nt:=26,keep:=[0,1,3,4,7],loc:=[3],take:=[(2,0),(2,1),(3,0),(3,17)],pure:=[(3,5),(3,16)],heads:=[],ownRes:=true,ownArg:=[0] },
  { nt:=18,keep:=[0,1,2,5],loc:=[1],take:=[],pure:=[(3,4),(3,9)],heads:=[],ownRes:=false,ownArg:=[] },
 aH,
 aH,
 aH,
 aH,
 aH,
 aH,
 aH,
 aH,
 aH,
 aH,
 aH,
 aH,
 aH,
 aH,
 aH,
 aH,
 aH,
 aH,
 aH,
 aH,
 aH,
 aH,
 aH,
 aH,
 aH,
 aH,
 aH,
  { nt:=35,keep:=[0,2,4,5,8,30],loc:=[5],take:=[],pure:=[],heads:=[],ownRes:=false,ownArg:=[],prim:=true },
 aH,
  { nt:=16,keep:=[0,1,3],loc:=[],take:=[],pure:=[],heads:=[],ownRes:=false,ownArg:=[] },
  { nt:=15,keep:=[0,1,2,4,5,6,7],loc:=[5],take:=[(3,0),(4,0),(4,1)],pure:=[],heads:=[],ownRes:=true,ownArg:=[0],mac:=[3] },
  { nt:=17,keep:=[0,1,5,12],loc:=[],take:=[],pure:=[],heads:=[(0,[(0,none),(1,none)])],ownRes:=false,ownArg:=[] }]
def ans (f:FuncId):Ann:=annTab.getD f aH
end Go.Proofs.YtdkkaldimefljaaGreatDoor
end
noncomputable section
namespace Go.Proofs.YtdkkaldimefljaaGreatDoor
open Go.AM
def tyTab:List (List UInt8×TyD):=[
 ([116,114,101,101],.mk [45,62] [.mk [76,105,115,116] [.mk [73,110,116] []],.mk [84,114,101,101] [.mk [73,110,116] []]]),
 ([116,108,105,115,116],.mk [45,62] [.mk [84,114,101,101] [.mk [39,97] []],.mk [76,105,115,116] [.mk [39,97] []]]),
 ([116,109,101,109,98,101,114],.mk [45,62] [.mk [73,110,116] [],.mk [45,62] [.mk [84,114,101,101] [.mk [73,110,116] []],.mk [66,111,111,108] []]]),
 ([116,115,105,122,101],.mk [45,62] [.mk [84,114,101,101] [.mk [39,97] []],.mk [73,110,116] []]),
 ([108,101,110,103,116,104],.mk [45,62] [.mk [76,105,115,116] [.mk [39,97] []],.mk [73,110,116] []]),
 ([116,105,110,115,101,114,116],.mk [45,62] [.mk [73,110,116] [],.mk [45,62] [.mk [84,114,101,101] [.mk [73,110,116] []],.mk [84,114,101,101] [.mk [73,110,116] []]]]),
 ([116,100,101,112,116,104],.mk [45,62] [.mk [84,114,101,101] [.mk [39,97] []],.mk [73,110,116] []]),
 ([105,116,101,109,115],.mk [45,62] [.mk [76,105,115,116] [.mk [73,110,116] []],.mk [73,110,116,115] []]),
 ([108,105,115,116],.mk [45,62] [.mk [73,110,116,115] [],.mk [76,105,115,116] [.mk [73,110,116] []]]),
 ([97,112,112,101,110,100],.mk [45,62] [.mk [76,105,115,116] [.mk [39,97] []],.mk [45,62] [.mk [76,105,115,116] [.mk [39,97] []],.mk [76,105,115,116] [.mk [39,97] []]]]),
 ([114,101,118,101,114,115,101],.mk [45,62] [.mk [76,105,115,116] [.mk [39,97] []],.mk [76,105,115,116] [.mk [39,97] []]]),
 ([116,97,107,101],.mk [45,62] [.mk [73,110,116] [],.mk [45,62] [.mk [76,105,115,116] [.mk [39,97] []],.mk [76,105,115,116] [.mk [39,97] []]]]),
 ([100,114,111,112],.mk [45,62] [.mk [73,110,116] [],.mk [45,62] [.mk [76,105,115,116] [.mk [39,97] []],.mk [76,105,115,116] [.mk [39,97] []]]]),
 ([99,111,110,99,97,116],.mk [45,62] [.mk [76,105,115,116] [.mk [76,105,115,116] [.mk [39,97] []]],.mk [76,105,115,116] [.mk [39,97] []]]),
 ([122,105,112],.mk [45,62] [.mk [76,105,115,116] [.mk [39,97] []],.mk [45,62] [.mk [76,105,115,116] [.mk [39,98] []],.mk [76,105,115,116] [.mk [44] [.mk [39,97] [],.mk [39,98] []]]]]),
 ([117,110,122,105,112],.mk [45,62] [.mk [76,105,115,116] [.mk [44] [.mk [39,97] [],.mk [39,98] []]],.mk [44] [.mk [76,105,115,116] [.mk [39,97] []],.mk [76,105,115,116] [.mk [39,98] []]]])]
def r6 (s:List UInt8):Option TyD:=(tyTab.find? fun p=>p.1==s).map (·.2)
def conTab:List (List UInt8):=[[84,114,117,101],[70,97,108,115,101],[78,105,108],[67,111,110,115],[76,101,97,102],[78,111,100,101],[73,116,101,109],[69,110,100]]
def l9 (s:List UInt8):Bool:=conTab.any fun c=>c==s
class Aps where
 ap:List Slot→Option (Option ARes)
def jS [Aps]:hZ:=fun f args =>
 bif Nat.beq f 18 then Aps.ap args
 else bif Nat.beq f 6 then (match args with
  |[]=>some (some (.ret (.val (.bool true))))
  |_=>some none)
 else bif Nat.beq f 36 then (match args with
  |[.val (.str s)]=>some ((r6 s).map fun t=>.ret (.tup [t.enc,.bool true]))
  |_=>some none)
 else bif Nat.beq f 41 then (match args with
  |[.val (.str s)]=>some ((r6 s).map fun _=>.ret (.val (.bool true)))
  |_=>some none)
 else bif Nat.beq f 157 then (match args with
  |[.val (.str s)]=>some (bif l9 s then some (.ret (.val (.int .i64 3))) else none)
  |_=>some none)
 else none
noncomputable abbrev CF [Aps]:aO:=cfW Tryz.prog ans jS
noncomputable abbrev LP [Aps]:aT:=lpW Tryz.prog ans jS
end Go.Proofs.YtdkkaldimefljaaGreatDoor
end
noncomputable section
namespace Go.Proofs.YtdkkaldimefljaaGreatDoor
open Go.AM
inductive VaD where
 |mk (con:List UInt8) (num:Int) (args:List VaD)
def VaD.con:VaD→List UInt8|.mk c _ _=>c
def VaD.num:VaD→Int|.mk _ n _=>n
def VaD.args:VaD→List VaD|.mk _ _ al=>al
mutual
def VaD.enc:VaD→AVal
 |.mk c n al=>.agg [.str c,.int .i64 n,.slice (VaD.encs al)]
def VaD.encs:List VaD→List AVal
 |[]=>[]
 |t::ts=>t.enc::VaD.encs ts
end
theorem VaD.encs_eq (l:List VaD):VaD.encs l=l.map VaD.enc:=by
 induction l with
 |nil=>simp [VaD.encs]
 |cons t ts ih=>simp [VaD.encs,ih]
theorem VaD.enc_mk (c:List UInt8) (n:Int) (al:List VaD):(VaD.mk c n al).enc=.agg [.str c,.int .i64 n,.slice (al.map VaD.enc)]:=by simp [VaD.enc,VaD.encs_eq]
theorem VaD.enc_eq (t:VaD):t.enc=.agg [.str t.con,.int .i64 t.num,.slice (t.args.map VaD.enc)]:=by cases t;exact VaD.enc_mk _ _ _
mutual
def VaD.size:VaD→Nat
 |.mk c _ al=>c.length+1+VaD.sizes al
def VaD.sizes:List VaD→Nat
 |[]=>0
 |t::ts=>t.size+1+VaD.sizes ts
end
theorem VaD.sizes_len (l:List VaD):l.length≤VaD.sizes l:=by
 induction l with
 |nil=>simp [VaD.sizes]
 |cons t ts ih=>simp only[VaD.sizes,List.length_cons];omega
theorem VaD.sizes_mem {t:VaD}:∀ {l:List VaD},t∈l→t.size < VaD.sizes l
 |x::l,h=>by
  simp only[VaD.sizes];rcases List.mem_cons.1 h with h|h
  ·subst h;omega
  ·have:=VaD.sizes_mem h;omega
theorem VaD.args_len (t:VaD):t.args.length < t.size:=by
 cases t;simp only[VaD.args,VaD.size];have:=VaD.sizes_len ‹_›;omega
theorem VaD.args_size {t a:VaD} (h:a∈t.args):a.size < t.size:=by
 cases t;simp only[VaD.args] at h;simp only[VaD.size];have:=VaD.sizes_mem h;omega
theorem VaD.ind {p:VaD→Prop} (h:∀ t,(∀ a∈t.args,p a)→p t):∀ t,p t:=by
 have:∀ n t,t.size < n→p t:=by
  intro n;induction n with
  |zero=>intro t ht;omega
  |succ n ih=>intro t ht;exact h t fun a ha=>ih a (by have:=VaD.args_size ha;omega)
 exact fun t=>this (t.size+1) t (by omega)
abbrev big:Nat:=4294967296
theorem oH {α:Type} (enc:α→AVal) (pre ys:List α) (y:α):((pre++y::ys).map enc)[((pre.length:Nat):Int).toNat]?=some (enc y):=by simp
theorem ltI {α:Type} (pre ys:List α) (y:α):decide (((pre.length:Nat):Int) < ((pre++y::ys).length:Nat))=true:=by simp;omega
theorem geI {α:Type} (l:List α):decide (((l.length:Nat):Int) < (l.length:Nat))=false:=by simp
theorem zI (n:Nat):decide (0≤((n:Nat):Int))=true:=by simp
theorem wI (n:Nat) (h:n < big):IntKind.i64.wrap (((n:Nat):Int)+1)=((n+1:Nat):Int):=by
 simp only[big] at h;rw[wG (by omega) (by omega)];rfl
theorem wL {α:Type} (pre ys:List α) (y:α) (h:(pre++y::ys).length < big):IntKind.i64.wrap (((pre.length:Nat):Int)+1)=((pre++[y]).length:Nat):=by
 rw[wI _ (by simp at h ⊢;omega)];simp
end Go.Proofs.YtdkkaldimefljaaGreatDoor
end
section
namespace Go.Proofs.YtdkkaldimefljaaGreatDoor
open Go.AM
theorem sz0:aZ Tryz.prog 0=some 1:=by kernel_rfl
theorem ag0:bC Tryz.prog 0=some false:=by kernel_rfl
theorem by0:aL Tryz.prog 0=0:=by kernel_rfl
theorem sz3:aZ Tryz.prog 3=some 1:=by kernel_rfl
theorem ag3:bC Tryz.prog 3=some false:=by kernel_rfl
theorem zo3:zeroOf Tryz.prog 3=some (AVal.int IntKind.i64 0):=by kernel_rfl
theorem zc3:zeroCells Tryz.prog 3=some [Cell.val (AVal.int IntKind.i64 0)]:=by kernel_rfl
theorem by3:aL Tryz.prog 3=8:=by kernel_rfl
theorem sz4:aZ Tryz.prog 4=some 1:=by kernel_rfl
theorem ag4:bC Tryz.prog 4=some false:=by kernel_rfl
theorem zo4:zeroOf Tryz.prog 4=some (AVal.bool false):=by kernel_rfl
theorem zc4:zeroCells Tryz.prog 4=some [Cell.val (AVal.bool false)]:=by kernel_rfl
theorem by4:aL Tryz.prog 4=1:=by kernel_rfl
theorem sz9:aZ Tryz.prog 9=some 1:=by kernel_rfl
theorem ag9:bC Tryz.prog 9=some false:=by kernel_rfl
theorem zo9:zeroOf Tryz.prog 9=some (AVal.str []):=by kernel_rfl
theorem zc9:zeroCells Tryz.prog 9=some [Cell.val (AVal.str [])]:=by kernel_rfl
theorem by9:aL Tryz.prog 9=16:=by kernel_rfl
theorem aLY:aZ Tryz.prog 22=some 1:=by kernel_rfl
theorem aLT:bC Tryz.prog 22=some false:=by kernel_rfl
theorem aNP:aR Tryz.prog 22=some 3:=by kernel_rfl
theorem aNU:zeroOf Tryz.prog 22=some (AVal.slice []):=by kernel_rfl
theorem aOJ:zeroCells Tryz.prog 22=some [Cell.own 1 []]:=by kernel_rfl
theorem aM6:aL Tryz.prog 22=24:=by kernel_rfl
theorem aKL:aZ Tryz.prog 25=some 1:=by kernel_rfl
theorem aMt:bC Tryz.prog 25=some false:=by kernel_rfl
theorem aNT:aR Tryz.prog 25=some 27:=by kernel_rfl
theorem aLS:zeroOf Tryz.prog 25=some (AVal.slice []):=by kernel_rfl
theorem aMH:zeroCells Tryz.prog 25=some [Cell.own 3 []]:=by kernel_rfl
theorem aKv:aL Tryz.prog 25=24:=by kernel_rfl
theorem aKY:aZ Tryz.prog 27=some 3:=by kernel_rfl
theorem aK9:bC Tryz.prog 27=some true:=by kernel_rfl
theorem aMl:zeroOf Tryz.prog 27=some (AVal.agg [AVal.str [],AVal.int IntKind.i64 0,AVal.slice []]):=by kernel_rfl
theorem aOA:zeroCells Tryz.prog 27=some [Cell.val (AVal.str []),Cell.val (AVal.int IntKind.i64 0),Cell.own 3 []]:=by kernel_rfl
theorem aLX:aL Tryz.prog 27=48:=by kernel_rfl
theorem aNS:(([{ name:= "Con",type:=9,offset:=0,embedded:=false,tag:= "",pkgPath:= "",byteOffset:=0 },{ name:= "Num",type:=3,offset:=1,embedded:=false,tag:= "",pkgPath:= "",byteOffset:=16 },{ name:= "Args",type:=25,offset:=2,embedded:=false,tag:= "",pkgPath:= "",byteOffset:=24 }]:List Field).mapM fun f=>(Tryz.prog.info? f.type).map fun i=>(f.offset,i.size))=some [(0,1),(1,1),(2,1)]:=by kernel_rfl
theorem aLs:aZ Tryz.prog 42=some 1:=by kernel_rfl
theorem aOx:bC Tryz.prog 42=some false:=by kernel_rfl
theorem aOs:zeroOf Tryz.prog 42=some (AVal.int IntKind.i64 0):=by kernel_rfl
theorem aNI:zeroCells Tryz.prog 42=some [Cell.val (AVal.int IntKind.i64 0)]:=by kernel_rfl
theorem aLo:aL Tryz.prog 42=8:=by kernel_rfl
theorem aLa:aZ Tryz.prog 43=some 1:=by kernel_rfl
theorem aKs:bC Tryz.prog 43=some false:=by kernel_rfl
theorem aKF:aL Tryz.prog 43=0:=by kernel_rfl
theorem aNg:aZ Tryz.prog 56=some 1:=by kernel_rfl
theorem aL8:bC Tryz.prog 56=some false:=by kernel_rfl
theorem aLn:aR Tryz.prog 56=some 58:=by kernel_rfl
theorem aN2:zeroOf Tryz.prog 56=some (AVal.slice []):=by kernel_rfl
theorem aLz:zeroCells Tryz.prog 56=some [Cell.own 2 []]:=by kernel_rfl
theorem aKJ:aL Tryz.prog 56=24:=by kernel_rfl
theorem aNd:aZ Tryz.prog 58=some 2:=by kernel_rfl
theorem aKE:bC Tryz.prog 58=some true:=by kernel_rfl
theorem aKp:zeroOf Tryz.prog 58=some (AVal.agg [AVal.str [],AVal.slice []]):=by kernel_rfl
theorem aMv:zeroCells Tryz.prog 58=some [Cell.val (AVal.str []),Cell.own 2 []]:=by kernel_rfl
theorem aOB:aL Tryz.prog 58=40:=by kernel_rfl
theorem aKr:(([{ name:= "Name",type:=9,offset:=0,embedded:=false,tag:= "",pkgPath:= "",byteOffset:=0 },{ name:= "Args",type:=56,offset:=1,embedded:=false,tag:= "",pkgPath:= "",byteOffset:=16 }]:List Field).mapM fun f=>(Tryz.prog.info? f.type).map fun i=>(f.offset,i.size))=some [(0,1),(1,1)]:=by kernel_rfl
theorem aOj:aZ Tryz.prog 82=some 1:=by kernel_rfl
theorem aL1:bC Tryz.prog 82=some false:=by kernel_rfl
theorem aLl:aL Tryz.prog 82=0:=by kernel_rfl
theorem aOF:aZ Tryz.prog 86=some 1:=by kernel_rfl
theorem aNa:bC Tryz.prog 86=some false:=by kernel_rfl
theorem aLQ:zeroOf Tryz.prog 86=some AVal.nilfunc:=by kernel_rfl
theorem aLt:zeroCells Tryz.prog 86=some [Cell.val AVal.nilfunc]:=by kernel_rfl
theorem aNo:aL Tryz.prog 86=8:=by kernel_rfl
theorem aL2:aZ Tryz.prog 87=some 1:=by kernel_rfl
theorem aNJ:bC Tryz.prog 87=some false:=by kernel_rfl
theorem aKX:zeroOf Tryz.prog 87=some AVal.nilfunc:=by kernel_rfl
theorem aMJ:zeroCells Tryz.prog 87=some [Cell.val AVal.nilfunc]:=by kernel_rfl
theorem aNs:aL Tryz.prog 87=8:=by kernel_rfl
theorem aLU:aZ Tryz.prog 90=some 1:=by kernel_rfl
theorem aLD:bC Tryz.prog 90=some false:=by kernel_rfl
theorem aNX:zeroOf Tryz.prog 90=some AVal.nilptr:=by kernel_rfl
theorem aNc:zeroCells Tryz.prog 90=some [Cell.val AVal.nilptr]:=by kernel_rfl
theorem aK1:aL Tryz.prog 90=8:=by kernel_rfl
theorem aL0:aZ Tryz.prog 91=some 1:=by kernel_rfl
theorem aMR:bC Tryz.prog 91=some false:=by kernel_rfl
theorem aL3:zeroOf Tryz.prog 91=some AVal.nilptr:=by kernel_rfl
theorem aNF:zeroCells Tryz.prog 91=some [Cell.val AVal.nilptr]:=by kernel_rfl
theorem aKo:aL Tryz.prog 91=8:=by kernel_rfl
theorem aLu:aZ Tryz.prog 95=some 1:=by kernel_rfl
theorem aN0:bC Tryz.prog 95=some false:=by kernel_rfl
theorem aMS:zeroOf Tryz.prog 95=some AVal.nilfunc:=by kernel_rfl
theorem aMP:zeroCells Tryz.prog 95=some [Cell.val AVal.nilfunc]:=by kernel_rfl
theorem aLv:aL Tryz.prog 95=8:=by kernel_rfl
theorem aKQ:aZ Tryz.prog 97=some 0:=by kernel_rfl
theorem aMd:bC Tryz.prog 97=some true:=by kernel_rfl
theorem aN8:zeroOf Tryz.prog 97=some (AVal.agg []):=by kernel_rfl
theorem aOQ:zeroCells Tryz.prog 97=some []:=by kernel_rfl
theorem aMo:aL Tryz.prog 97=0:=by kernel_rfl
theorem aIn:aZ Tryz.prog 154=some 1:=by kernel_rfl
theorem aJ3:bC Tryz.prog 154=some false:=by kernel_rfl
theorem aIj:zeroOf Tryz.prog 154=some AVal.nilfunc:=by kernel_rfl
theorem aI3:zeroCells Tryz.prog 154=some [Cell.val AVal.nilfunc]:=by kernel_rfl
theorem aJa:aL Tryz.prog 154=8:=by kernel_rfl
theorem aIN:aZ Tryz.prog 160=some 1:=by kernel_rfl
theorem aJF:bC Tryz.prog 160=some false:=by kernel_rfl
theorem aJC:zeroOf Tryz.prog 160=some AVal.nilfunc:=by kernel_rfl
theorem aJs:zeroCells Tryz.prog 160=some [Cell.val AVal.nilfunc]:=by kernel_rfl
theorem aI2:aL Tryz.prog 160=8:=by kernel_rfl
theorem aJo:aZ Tryz.prog 161=some 1:=by kernel_rfl
theorem aIA:bC Tryz.prog 161=some false:=by kernel_rfl
theorem aIK:zeroOf Tryz.prog 161=some AVal.nilfunc:=by kernel_rfl
theorem aIV:zeroCells Tryz.prog 161=some [Cell.val AVal.nilfunc]:=by kernel_rfl
theorem aJp:aL Tryz.prog 161=8:=by kernel_rfl
theorem aIp:aZ Tryz.prog 225=some 1:=by kernel_rfl
theorem aJX:bC Tryz.prog 225=some false:=by kernel_rfl
theorem aKf:zeroOf Tryz.prog 225=some AVal.nilfunc:=by kernel_rfl
theorem aJn:zeroCells Tryz.prog 225=some [Cell.val AVal.nilfunc]:=by kernel_rfl
theorem aIJ:aL Tryz.prog 225=8:=by kernel_rfl
theorem aHb:fieldAt? Tryz.prog 27 0=some (0,9):=by kernel_rfl
theorem aHQ:fieldAt? Tryz.prog 27 1=some (1,3):=by kernel_rfl
theorem aHK:fieldAt? Tryz.prog 27 2=some (2,25):=by kernel_rfl
theorem aGS:fieldAt? Tryz.prog 58 0=some (0,9):=by kernel_rfl
theorem aGH:fieldAt? Tryz.prog 58 1=some (1,56):=by kernel_rfl
end Go.Proofs.YtdkkaldimefljaaGreatDoor
end
section
namespace Go.Proofs.YtdkkaldimefljaaGreatDoor
open Go.AM
theorem an3:ans 3={ nt:=98,keep:=[0,1,4,5,6,7,8,9,10,11,12,13,49,68],loc:=[7,8,9,11,13],take:=[],pure:=[],heads:=[],ownRes:=false,ownArg:=[] }:=by kernel_rfl
theorem an7:ans 7={ nt:=11,keep:=[0,2,5],loc:=[],take:=[],pure:=[],heads:=[],ownRes:=false,ownArg:=[] }:=by kernel_rfl
theorem an8:ans 8={ nt:=6,keep:=[0,2],loc:=[2],take:=[],pure:=[],heads:=[],ownRes:=false,ownArg:=[] }:=by kernel_rfl
theorem an9:ans 9={ nt:=20,keep:=[0,2,3,4,8],loc:=[],take:=[(5,0)],pure:=[],heads:=[(3,[(0,none),(3,none),(4,none)])],ownRes:=false,ownArg:=[] }:=by kernel_rfl
theorem aLf:ans 10={ nt:=17,keep:=[0,1,4,5,6,14],loc:=[4,5],take:=[],pure:=[],heads:=[],ownRes:=false,ownArg:=[] }:=by kernel_rfl
theorem aOk:ans 11={ nt:=22,keep:=[0,1,4,5,6,10,18],loc:=[],take:=[],pure:=[],heads:=[(3,[(0,none),(1,none),(5,none),(6,none)])],ownRes:=false,ownArg:=[] }:=by kernel_rfl
theorem aLM:ans 12={ nt:=46,keep:=[0,1,2,3,4,5,26,31,45],loc:=[2,3],take:=[],pure:=[],heads:=[(4,[(2,none),(3,none),(5,none)])],ownRes:=false,ownArg:=[] }:=by kernel_rfl
theorem nB:ans 18={ nt:=33,keep:=[0,1,4,5,6,7,12,28],loc:=[7],take:=[],pure:=[],heads:=[],ownRes:=false,ownArg:=[],prim:=true }:=by kernel_rfl
theorem aOL:ans 22={ nt:=27,keep:=[0,1,2,3,5,12,13,14,15],loc:=[1,2,3,5],take:=[(5,1)],pure:=[],heads:=[(3,[(2,none),(3,none),(12,none),(13,none),(14,none)])],ownRes:=false,ownArg:=[] }:=by kernel_rfl
theorem aKW:ans 23={ nt:=16,keep:=[0,2,3,5,8,9,10],loc:=[2,5],take:=[],pure:=[],heads:=[],ownRes:=false,ownArg:=[] }:=by kernel_rfl
theorem aL4:ans 24={ nt:=6,keep:=[0,1,2,3,5],loc:=[],take:=[],pure:=[],heads:=[],ownRes:=false,ownArg:=[] }:=by kernel_rfl
theorem aNh:ans 26={ nt:=33,keep:=[0,1,4,5,7,10,32],loc:=[5],take:=[],pure:=[],heads:=[],ownRes:=false,ownArg:=[] }:=by kernel_rfl
theorem aMK:ans 29={ nt:=21,keep:=[0,1,2,3,5,7,8,9,10,18],loc:=[1,5],take:=[],pure:=[],heads:=[(3,[(3,none),(7,none),(8,none),(9,none)])],ownRes:=false,ownArg:=[] }:=by kernel_rfl
theorem aKk:ans 38={ nt:=8,keep:=[0,1,4],loc:=[4],take:=[],pure:=[],heads:=[],ownRes:=false,ownArg:=[] }:=by kernel_rfl
theorem aNj:ans 39={ nt:=4,keep:=[0,1,2],loc:=[],take:=[],pure:=[],heads:=[],ownRes:=false,ownArg:=[] }:=by kernel_rfl
theorem aMk:ans 40={ nt:=85,keep:=[0,1,4,5,6,17,22,30,40,71,72,73,83],loc:=[],take:=[],pure:=[],heads:=[(13,[(0,none),(1,none),(71,none),(72,none)])],ownRes:=false,ownArg:=[] }:=by kernel_rfl
theorem aN9:ans 42={ nt:=19,keep:=[0,1,2,3,6],loc:=[1],take:=[(3,0)],pure:=[],heads:=[(2,[(1,none),(3,none)])],ownRes:=false,ownArg:=[] }:=by kernel_rfl
theorem aOq:ans 43={ nt:=9,keep:=[0,1,4],loc:=[],take:=[],pure:=[],heads:=[],ownRes:=false,ownArg:=[] }:=by kernel_rfl
theorem aMh:ans 44={ nt:=6,keep:=[0,1,2],loc:=[1],take:=[],pure:=[],heads:=[],ownRes:=false,ownArg:=[] }:=by kernel_rfl
theorem aMb:ans 45={ nt:=22,keep:=[0,1,4,5,6,7,8,9,10,20],loc:=[6],take:=[],pure:=[],heads:=[(2,[(1,none),(7,none),(8,none),(9,none)])],ownRes:=false,ownArg:=[] }:=by kernel_rfl
theorem aKx:ans 50={ nt:=6,keep:=[0,2,3],loc:=[2],take:=[],pure:=[],heads:=[],ownRes:=false,ownArg:=[] }:=by kernel_rfl
theorem aOp:ans 54={ nt:=5,keep:=[0,2],loc:=[2],take:=[],pure:=[],heads:=[],ownRes:=false,ownArg:=[] }:=by kernel_rfl
theorem aN5:ans 57={ nt:=6,keep:=[0,1,2],loc:=[1],take:=[(1,3)],pure:=[],heads:=[],ownRes:=true,ownArg:=[] }:=by kernel_rfl
theorem aNx:ans 58={ nt:=9,keep:=[0,2],loc:=[2],take:=[],pure:=[],heads:=[],ownRes:=false,ownArg:=[] }:=by kernel_rfl
theorem aOg:ans 61={ nt:=14,keep:=[0,1,2,3,4,6,7],loc:=[1,4],take:=[(4,0)],pure:=[],heads:=[],ownRes:=false,ownArg:=[] }:=by kernel_rfl
theorem aME:ans 82={ nt:=13,keep:=[0,1,4],loc:=[2,4],take:=[],pure:=[],heads:=[],ownRes:=false,ownArg:=[] }:=by kernel_rfl
theorem aNC:ans 83={ nt:=42,keep:=[0,1,4,5,6,12,19,30],loc:=[2,4,5],take:=[],pure:=[],heads:=[(2,[(1,none),(4,none),(5,none)])],ownRes:=false,ownArg:=[] }:=by kernel_rfl
theorem aNu:ans 84={ nt:=10,keep:=[0,1,4],loc:=[2,4],take:=[],pure:=[],heads:=[],ownRes:=false,ownArg:=[] }:=by kernel_rfl
theorem aNn:ans 85={ nt:=11,keep:=[0,1,4],loc:=[2,4],take:=[],pure:=[],heads:=[],ownRes:=false,ownArg:=[] }:=by kernel_rfl
theorem aLd:ans 86={ nt:=10,keep:=[0,1,4],loc:=[2,4],take:=[],pure:=[],heads:=[],ownRes:=false,ownArg:=[] }:=by kernel_rfl
theorem aMD:ans 87={ nt:=23,keep:=[0,1,4,5,7,12,13,14,15],loc:=[2,4,5],take:=[],pure:=[],heads:=[(3,[(4,none),(5,none),(12,none),(13,none),(14,none)])],ownRes:=false,ownArg:=[] }:=by kernel_rfl
theorem aKP:ans 88={ nt:=27,keep:=[0,1,4,5,6,12,24],loc:=[2,4,6],take:=[(5,0)],pure:=[],heads:=[(3,[(4,none),(5,none),(6,none)])],ownRes:=false,ownArg:=[] }:=by kernel_rfl
theorem aNi:ans 89={ nt:=21,keep:=[0,1,4,5,7,13,14,15],loc:=[2,4,7],take:=[],pure:=[],heads:=[],ownRes:=false,ownArg:=[] }:=by kernel_rfl
theorem aKa:ans 108={ nt:=19,keep:=[0,1,3,8,18],loc:=[],take:=[],pure:=[],heads:=[(1,[(0,none),(1,none),(3,none)])],ownRes:=false,ownArg:=[] }:=by kernel_rfl
theorem aJO:ans 109={ nt:=6,keep:=[0,2],loc:=[],take:=[],pure:=[],heads:=[],ownRes:=false,ownArg:=[] }:=by kernel_rfl
theorem aJ1:ans 112={ nt:=19,keep:=[0,1,4,5,7,8,9,16],loc:=[],take:=[],pure:=[],heads:=[(2,[(0,none),(1,none),(7,none),(8,none)])],ownRes:=false,ownArg:=[] }:=by kernel_rfl
theorem aKb:ans 113={ nt:=132,keep:=[0,1,2,3,4,5,8,9,14,28,39,63,86,111],loc:=[2],take:=[],pure:=[],heads:=[],ownRes:=false,ownArg:=[] }:=by kernel_rfl
theorem aJg:ans 114={ nt:=5,keep:=[0,2],loc:=[],take:=[(1,2)],pure:=[],heads:=[],ownRes:=true,ownArg:=[] }:=by kernel_rfl
theorem aJj:ans 115={ nt:=4,keep:=[0,1,2],loc:=[],take:=[],pure:=[],heads:=[],ownRes:=false,ownArg:=[] }:=by kernel_rfl
theorem aIu:ans 127={ nt:=61,keep:=[0,1,3,4,5,8,20,40],loc:=[3,4],take:=[],pure:=[(5,5),(5,15),(7,13),(7,15)],heads:=[],ownRes:=false,ownArg:=[] }:=by kernel_rfl
theorem aIy:ans 128={ nt:=26,keep:=[0,1,3,4,7],loc:=[3],take:=[(2,0),(2,1),(3,0),(3,17)],pure:=[(3,5),(3,16)],heads:=[],ownRes:=true,ownArg:=[0] }:=by kernel_rfl
theorem aIl:ans 129={ nt:=18,keep:=[0,1,2,5],loc:=[1],take:=[],pure:=[(3,4),(3,9)],heads:=[],ownRes:=false,ownArg:=[] }:=by kernel_rfl
theorem aId:ans 159={ nt:=16,keep:=[0,1,3],loc:=[],take:=[],pure:=[],heads:=[],ownRes:=false,ownArg:=[] }:=by kernel_rfl
theorem aI4:ans 160={ nt:=15,keep:=[0,1,2,4,5,6,7],loc:=[5],take:=[(3,0),(4,0),(4,1)],pure:=[],heads:=[],ownRes:=true,ownArg:=[0],mac:=[3] }:=by kernel_rfl
theorem aJ9:ans 161={ nt:=17,keep:=[0,1,5,12],loc:=[],take:=[],pure:=[],heads:=[(0,[(0,none),(1,none)])],ownRes:=false,ownArg:=[] }:=by kernel_rfl
end Go.Proofs.YtdkkaldimefljaaGreatDoor
end
