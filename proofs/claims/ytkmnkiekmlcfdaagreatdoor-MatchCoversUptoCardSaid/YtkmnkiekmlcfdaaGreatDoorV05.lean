/- Part V05 of the proof of one law of the program. -/
import Derived.Test.YtkmnkiekmlcfdaaGreatDoorV04
set_option linter.all false
section
section
namespace Go.Proofs.YtkmnkiekmlcfdaaGreatDoor
open Go.AM
set_option maxRecDepth 100000
set_option maxHeartbeats 1000000
variable {kd:List UInt8→Int}
def zeroPa:PaD:=.mk 0 [] []
theorem zeroPa_enc:zeroPa.enc=.agg [.int .i64 0,.str [],.slice []]:=by simp [zeroPa,PaD.enc_mk]
def coverR (r:Option (List PaD)):PaD:=match r with|some (w::_)=>plainD w|_=>zeroPa
theorem c49 {ds:List DaD} (h:DsOk ds) (t:TyD) (l:List PaD) (hl:l.length+1 < big) {r:Option (List PaD)} (hs:Srch ds [t] [wildD] (singleD l) r) (hw:∀ w,r=some w→∃ w0 w',w=w0::w'∧Thin w0) (S:Sto) (hlo:S.lo≤S.objs.length) :
  CF kd (.fn 49) [.val (.slice (ds.map DaD.enc)),.val t.enc,.val (.slice (l.map PaD.enc))] S=some (.ret (.tup [(coverR r).enc,.bool (!r.isSome)]),S):=by
 have h97:=c97 (kd:=kd) h hs S hlo;have h98:=c98 (kd:=kd) l hl S;have h90:=c90 (kd:=kd) S;simp only[List.map_cons,List.map_nil,resS] at h97;rw[wildD_enc] at h90 h97;rw[t.enc_eq] at h97 ⊢;cases r with
 |none =>
  simp only[coverR,Option.getD_none,Option.isSome_none,List.map_nil,zeroPa_enc,Bool.not_false] at h97 ⊢;apply tA;rfl;rfl;exact Tryz.func49;rfl;rfl;simp only[go_sem];rfl;refine tQ ?_;repeat first|with_reducible constructor|(with_reducible apply tG);kernel_rfl;intro _ _;(repeat apply tOp;intro _;simp only[h90,h98,h97,ann97,setElems,clean,flat,List.replicate,List.set_cons_zero,go_sem];rfl);rfl;simp only[go_sem];rfl|(with_reducible apply t1);rfl;trivial
  exact fin0 rfl
 |some w =>
  obtain ⟨w0,w',rfl,hT⟩:=hw w rfl;have h99:=c99 (kd:=kd) w0 S hT;simp only[coverR,Option.getD_some,Option.isSome_some,List.map_cons,Bool.not_true] at h97 ⊢;rw[w0.enc_eq] at h97 h99;rw[(plainD w0).enc_eq] at h99 ⊢;apply tA;rfl;rfl;exact Tryz.func49;rfl;rfl;simp only[go_sem];rfl;refine tQ ?_;repeat first|with_reducible constructor|(with_reducible apply tG);kernel_rfl;intro _ _;(repeat apply tOp;intro _;simp only[h90,h98,h97,ann97,setElems,clean,flat,List.replicate,List.set_cons_zero,d00,n0,h99,go_sem,Nat.reduceAdd,reduceIte];rfl);rfl;simp only[go_sem];rfl|(with_reducible apply t0);rfl;trivial
  exact fin0 rfl
end Go.Proofs.YtkmnkiekmlcfdaaGreatDoor
end
section
namespace Go.Proofs.YtkmnkiekmlcfdaaGreatDoor
open Go.AM
inductive TyB:TyD→Prop
 |mk {t:TyD}:t.args.length≤16→(∀ a∈t.args,TyB a)→TyB t
theorem TyB.len {t:TyD} (h:TyB t):t.args.length≤16:=by cases h;assumption
theorem TyB.sub {t:TyD} (h:TyB t):∀ a∈t.args,TyB a:=by cases h;assumption
structure DsB (ds:List DaD):Prop where
 vars:∀ d∈ds,d.vars.length≤16
 args:∀ d∈ds,∀ c∈d.cons,c.args.length≤16
 types:∀ d∈ds,∀ c∈d.cons,∀ x∈c.args,TyB x
theorem findD_mem {ds:List DaD} {n:List UInt8} {d:DaD} (h:findD ds n=some d):d=truthsD∨d∈ds:=by
 have:=List.mem_of_find?_eq_some h
 simpa using this
theorem typed_TyB {vr:List UInt8→Bool} {ds:List DaD} (hv:∀ d∈ds,d.vars.length≤16):∀ (m:Nat) (t:TyD),typedD vr ds m t=true→TyB t
 |0,t,h=>by simp [typedD] at h
 |m+1,t,h=>by
  have nil:t.args.length=0→TyB t:=fun h0=>.mk (by omega) (fun a ha=>by rw[List.length_eq_zero_iff.1 h0] at ha;cases ha)
  have all:t.args.length≤16→(!t.args.any fun x=>!typedD vr ds m x)=true→TyB t:=fun hl h=>.mk hl fun a ha=>by
   simp only[Bool.not_eq_true',List.any_eq_false,Bool.not_eq_true,Bool.not_eq_false'] at h;exact typed_TyB hv m a (by simpa using h a ha)
  simp only[typedD] at h;cases hs:shapeD vr ds t with
  |some b =>
   rw[hs] at h;simp only at h;subst h;simp only[shapeD] at hs
   split at hs
   ·apply nil;simpa using hs
   ·split at hs
    ·split at hs <;> simp at hs
    ·split at hs
     ·split at hs <;> simp at hs
     ·split at hs <;> simp at hs
  |none =>
   rw[hs] at h;simp only at h;refine all ?_ h;simp only[shapeD] at hs
   split at hs
   ·simp at hs
   ·split at hs
    ·split at hs
     ·simp at hs
     ·rename_i h2;simp at h2;omega
    ·split at hs
     ·split at hs
      ·simp at hs
      ·rename_i h2;simp at h2;omega
     ·split at hs
      ·simp at hs
      ·rename_i h2
       simp only[Bool.or_eq_true,Bool.not_eq_true',bne_iff_ne,ne_eq,not_or,Bool.not_eq_false,Decidable.not_not] at h2;obtain ⟨h3,h4⟩:=h2;cases hf:findD ds t.name with
       |none=>rw[hf] at h3;cases h3
       |some d =>
        rw[hf] at h4;simp only[Option.getD_some] at h4;rcases findD_mem hf with rfl|hm
        ·simp [truthsD] at h4;omega
        ·have:=hv d hm;omega
theorem chk_B {vr cn:List UInt8→Bool} {ds:List DaD} {t:TyD} (h:chkT vr cn ds t=true):DsB ds∧TyB t:=by
 simp only[chkT,declD,Bool.and_eq_true,List.all_eq_true] at h;obtain ⟨⟨⟨⟨_,h1⟩,_⟩,h2⟩,h3⟩:=h
 have hv:∀ d∈ds,d.vars.length≤16:=fun d hd=>by
  have:=h1 d hd
  simp only[okD,badA,Bool.and_eq_true,Bool.not_eq_true',Bool.or_eq_false_iff,decide_eq_false_iff_not] at this;omega
 refine ⟨⟨hv,fun d hd c hc=>?_,fun d hd c hc x hx=>?_⟩,typed_TyB hv _ _ h3⟩
 ·have:=h1 d hd
  simp only[okD,Bool.and_eq_true,List.all_eq_true] at this
  have:=this.2 c hc
  simp only[okC,Bool.not_eq_true',decide_eq_false_iff_not] at this;omega
 ·have:=h2 d hd c hc x hx
  simp only[okT,Bool.and_eq_true] at this;exact typed_TyB hv _ _ this.1.1
theorem put_TyB {f:List UInt8→Option TyD} (hf:∀ s x,f s=some x→TyB x):∀ t,TyB t→TyB (putD f t):=by
 refine TyD.ind fun t ih ht=>?_
 rw[putD_eq];cases h:f t.name with
 |some x=>exact hf _ _ h
 |none =>
  refine .mk (by simpa [TyD.args] using ht.len) fun a ha=>?_
  simp only[TyD.args,List.mem_map] at ha;obtain ⟨b,hb,rfl⟩:=ha;exact ih b hb (ht.sub b hb)
theorem ofD_TyB {vs:List (List UInt8)} {xs:List TyD} (h:∀ a∈xs,TyB a) (s:List UInt8) (x:TyD) (hx:ofD vs xs s=some x):TyB x:=by
 simp only[ofD] at hx
 split at hx
 ·exact h x (List.mem_of_getElem? hx)
 ·cases hx
theorem cons_B {ds:List DaD} (hd:DsB ds) {t:TyD} (ht:TyB t):∀ c∈consD ds t,c.args.length≤16∧∀ a∈c.args,TyB a:=by
 intro c hc;simp only[consD] at hc
 split at hc
 ·simp only[List.mem_singleton] at hc
  subst hc;exact ⟨ht.len,ht.sub⟩
 ·split at hc
  ·cases hc
  ·rename_i d hf
   simp only[List.mem_map] at hc;obtain ⟨c0,hc0,rfl⟩:=hc;simp only[putC,List.length_map,List.mem_map];rcases findD_mem hf with rfl|hm
   ·simp only[truthsD,List.mem_cons,List.not_mem_nil,or_false] at hc0
    rcases hc0 with rfl|rfl <;> simp
   ·refine ⟨hd.args d hm c0 hc0,fun a ha=>?_⟩
    obtain ⟨b,hb,rfl⟩:=ha;exact put_TyB (ofD_TyB ht.sub) b (hd.types d hm c0 hc0 b hb)
mutual
def PaD.nd:PaD→Nat
 |.mk k _ l=>if k==1||k==2 then 0 else 1+PaD.nds l
def PaD.nds:List PaD→Nat
 |[]=>0
 |t::ts=>t.nd+PaD.nds ts
end
theorem nd_open {p:PaD} (h:p.open=true):p.nd=0:=by
 cases p with
 |mk k n l=>simp only[PaD.open,PaD.kind] at h;simp only[PaD.nd,h,if_true]
theorem nd_not {p:PaD} (h:p.open=false):p.nd=1+PaD.nds p.args:=by
 cases p with
 |mk k n l=>simp only[PaD.open,PaD.kind] at h;simp only[PaD.nd,h,PaD.args];rfl
theorem nds_append:∀ (a b:List PaD),PaD.nds (a++b)=PaD.nds a+PaD.nds b
 |[],b=>by simp [PaD.nds]
 |p::a,b=>by simp only[List.cons_append,PaD.nds,nds_append a b];omega
theorem wildD_open:wildD.open=true:=rfl
theorem nds_wilds:∀ n,PaD.nds (wilds n)=0
 |0=>rfl
 |n+1=>by
  have:=nds_wilds n
  simp only[wilds,List.replicate_succ,PaD.nds] at this ⊢;rw[nd_open wildD_open,this]
theorem nd_size:∀ p:PaD,p.nd≤p.size:=by
 refine PaD.ind fun p ih=>?_
 have hl:∀ l:List PaD,(∀ a∈l,a.nd≤a.size)→PaD.nds l≤PaD.sizes l:=by
  intro l;induction l with
  |nil=>intro _;simp [PaD.nds,PaD.sizes]
  |cons x l ihl =>
   intro h;have h1:=h x (by simp);have h2:=ihl (fun a ha=>h a (by simp [ha]));simp only[PaD.nds,PaD.sizes];omega
 have:=hl p.args ih
 cases hp:p.open with
 |true=>rw[nd_open hp];omega
 |false =>
  rw[nd_not hp];cases p with
  |mk k n l=>simp only[PaD.args,PaD.size] at this ⊢;omega
theorem nds_sizes:∀ l:List PaD,PaD.nds l≤PaD.sizes l
 |[]=>by simp [PaD.nds,PaD.sizes]
 |p::l=>by
  have h1:=nd_size p;have h2:=nds_sizes l;simp only[PaD.nds,PaD.sizes];omega
theorem fields_len {p:PaD} {c:CoD} {f:List PaD} (h:fieldsD p c=some f):f.length=c.args.length:=by
 simp only[fieldsD] at h
 split at h
 ·cases h;simp [wilds]
 ·split at h
  ·rename_i h2
   cases h;simp only[Bool.and_eq_true,beq_iff_eq] at h2;omega
  ·cases h
theorem fields_open {p:PaD} {c:CoD} (h:p.open=true):fieldsD p c=some (wilds c.args.length):=by simp only[fieldsD,h,if_true]
theorem fields_nd {p:PaD} {c:CoD} {f:List PaD} (h:fieldsD p c=some f):PaD.nds f≤p.nd∧(p.open=false→PaD.nds f+1=p.nd):=by
 cases hp:p.open with
 |true =>
  rw[fields_open hp] at h;cases h;rw[nds_wilds];exact ⟨Nat.zero_le _,by simp⟩
 |false =>
  simp only[fieldsD,hp,Bool.false_eq_true,if_false] at h
  split at h
  ·cases h
   rw[nd_not hp];exact ⟨by omega,fun _=>by omega⟩
  ·cases h
def ndR:List (List PaD)→Nat
 |[]=>0
 |r::rs=>PaD.nds r+ndR rs
theorem rowsL_cons (r:Row) (rs:List Row):rowsL (r::rs)=(r.1::r.2)::rowsL rs:=rfl
theorem rowsL_len (rs:List Row):(rowsL rs).length=rs.length:=by simp [rowsL]
theorem rows_rowsL:∀ (rows:List (List PaD)),(∀ r∈rows,r≠[])→∃ rs,rows=rowsL rs
 |[],_=>⟨[],rfl⟩
 |[]::rows,h=>absurd rfl (h [] (by simp))
 |(p::l)::rows,h=>by
  obtain ⟨rs,hrs⟩:=rows_rowsL rows fun r hr=>h r (by simp [hr])
  exact ⟨(p,l)::rs,by rw[rowsL_cons,hrs]⟩
theorem mem_rowsL {p:PaD} {l:List PaD} {rs:List Row}:(p::l)∈rowsL rs↔(p,l)∈rs:=by
 simp only[rowsL,List.mem_map];constructor
 ·rintro ⟨⟨a,b⟩,h,e⟩;cases e;exact h
 ·intro h;exact ⟨_,h,rfl⟩
theorem under_mem {c:CoD} {p:PaD} {l f:List PaD}:∀ {rs:List Row},(p,l)∈rs→fieldsD p c=some f→f++l∈under c rs
 |r::rs,h,hf=>by
  simp only[under];rcases List.mem_cons.1 h with h|h
  ·subst h;simp only[hf];simp
  ·have:=under_mem h hf
   split
   ·simp [this]
   ·exact this
theorem of_under {c:CoD} {x:List PaD}:∀ {rs:List Row},x∈under c rs→∃ p l f,(p,l)∈rs∧fieldsD p c=some f∧x=f++l
 |[],h=>by simp [under] at h
 |r::rs,h=>by
  simp only[under] at h
  split at h
  ·rename_i f hf
   rcases List.mem_cons.1 h with h|h
   ·exact ⟨r.1,r.2,f,by simp,hf,h⟩
   ·obtain ⟨p,l,f,h1,h2,h3⟩:=of_under h
    exact ⟨p,l,f,by simp [h1],h2,h3⟩
  ·obtain ⟨p,l,f,h1,h2,h3⟩:=of_under h
   exact ⟨p,l,f,by simp [h1],h2,h3⟩
theorem rest_mem {p:PaD} {l:List PaD}:∀ {rs:List Row},(p,l)∈rs→p.open=true→l∈restD rs
 |r::rs,h,hp=>by
  simp only[restD];rcases List.mem_cons.1 h with h|h
  ·subst h;simp only[hp,cond_true];simp
  ·have:=rest_mem h hp
   cases r.1.open
   ·exact this
   ·simp [this]
theorem of_rest {x:List PaD}:∀ {rs:List Row},x∈restD rs→∃ p,(p,x)∈rs∧p.open=true
 |[],h=>by simp [restD] at h
 |r::rs,h=>by
  simp only[restD] at h;cases hp:r.1.open with
  |false =>
   rw[hp] at h;obtain ⟨p,h1,h2⟩:=of_rest h;exact ⟨p,by simp [h1],h2⟩
  |true =>
   rw[hp] at h;rcases List.mem_cons.1 h with h|h
   ·subst h;exact ⟨r.1,by simp,hp⟩
   ·obtain ⟨p,h1,h2⟩:=of_rest h
    exact ⟨p,by simp [h1],h2⟩
theorem rest_len:∀ rs:List Row,(restD rs).length≤rs.length
 |[]=>Nat.le_refl _
 |r::rs=>by
  have:=rest_len rs
  simp only[restD];cases r.1.open <;> simp only[cond_true,cond_false,List.length_cons] <;> omega
theorem ndR_rest:∀ rs:List Row,ndR (restD rs)≤ndR (rowsL rs)
 |[]=>Nat.le_refl _
 |r::rs=>by
  have:=ndR_rest rs
  simp only[restD,rowsL_cons,ndR,PaD.nds];cases r.1.open <;> simp only[cond_true,cond_false,ndR] <;> omega
theorem ndR_under (c:CoD):∀ rs:List Row,ndR (under c rs)≤ndR (rowsL rs)
 |[]=>Nat.le_refl _
 |r::rs=>by
  have:=ndR_under c rs
  simp only[under,rowsL_cons];split
  ·rename_i f hf
   have:=(fields_nd hf).1
   simp only[ndR,nds_append,PaD.nds];omega
  ·simp only[ndR,PaD.nds];omega
theorem ndR_under_lt (c:CoD) {r:Row} (hr:r.1.open=false):∀ {rs:List Row},r∈rs→ndR (under c rs) < ndR (rowsL rs)
 |x::rs,h=>by
  have h0:=ndR_under c rs;simp only[under,rowsL_cons];rcases List.mem_cons.1 h with h|h
  ·subst h
   split
   ·rename_i f hf
    have:=(fields_nd hf).2 hr
    simp only[ndR,nds_append,PaD.nds];omega
   ·have:=nd_not hr
    simp only[ndR,PaD.nds];omega
  ·have h1:=ndR_under_lt c hr h
   split
   ·rename_i f hf
    have:=(fields_nd hf).1
    simp only[ndR,nds_append,PaD.nds];omega
   ·simp only[ndR,PaD.nds];omega
theorem mem_addS {S:List (List UInt8)} {s x:List UInt8}:x∈addS S s↔x∈S∨x=s:=by
 simp only[addS];split
 ·rename_i h
  have:=List.contains_iff_mem.1 h
  constructor
  ·exact .inl
  ·rintro (h|rfl)
   ·exact h
   ·exact this
 ·simp
theorem mem_heads {x:List UInt8}:∀ {rs:List Row} {H:List (List UInt8)},x∈headsD H rs↔x∈H∨∃ r∈rs,(r.1.kind==3)=true∧r.1.name=x
 |[],H=>by simp [headsD]
 |r::rs,H=>by
  simp only[headsD];rw[mem_heads];cases hk:(r.1.kind==3) with
  |false =>
   simp only[cond_false,List.mem_cons];constructor
   ·rintro (h|⟨y,hy,h1,h2⟩)
    ·exact .inl h
    ·exact .inr ⟨y,.inr hy,h1,h2⟩
   ·rintro (h|⟨y,rfl|hy,h1,h2⟩)
    ·exact .inl h
    ·rw[hk] at h1;cases h1
    ·exact .inr ⟨y,hy,h1,h2⟩
  |true =>
   simp only[cond_true,mem_addS,List.mem_cons];constructor
   ·rintro ((h|rfl)|⟨y,hy,h1,h2⟩)
    ·exact .inl h
    ·exact .inr ⟨r,.inl rfl,hk,rfl⟩
    ·exact .inr ⟨y,.inr hy,h1,h2⟩
   ·rintro (h|⟨y,rfl|hy,h1,h2⟩)
    ·exact .inl (.inl h)
    ·exact .inl (.inr h2.symm)
    ·exact .inr ⟨y,hy,h1,h2⟩
theorem miss_false {H:List (List UInt8)}:∀ {cs:List CoD} {b:Bool},missD H b cs=false↔b=false∧∀ c∈cs,c.name∈H
 |[],b=>by simp [missD]
 |c::cs,b=>by
  simp only[missD];rw[miss_false];simp only[Bool.or_eq_false_iff,Bool.not_eq_false',List.mem_cons,forall_eq_or_imp,List.contains_iff_mem];constructor
  ·rintro ⟨⟨h1,h2⟩,h3⟩;exact ⟨h1,h2,h3⟩
  ·rintro ⟨h1,h2,h3⟩;exact ⟨⟨h1,h2⟩,h3⟩
theorem open_kind {p:PaD} (h:(p.kind==3)=true):p.open=false:=by
 have:p.kind=3:=by simpa using h
 simp [PaD.open,this]
theorem one_none {q:Row} {c:CoD} {f:List PaD} (hf:fieldsD q.1 c=some f) {x:Option (List PaD)}:none=oneR q c x→x=none:=by
 intro h;cases x with
 |none=>rfl
 |some l=>simp [oneR,hf] at h
theorem one_none' {q:Row} {c:CoD} {x:Option (List PaD)} (h:∀ f,fieldsD q.1 c=some f→x=none):oneR q c x=none:=by
 simp only[oneR];split
 ·rfl
 ·rename_i f hf
  rw[h f hf]
theorem rowsL_nil {r:Row} {rs:List Row} (h:rowsL (r::rs)=[]):False:=by simp [rowsL] at h
theorem srch_free {ds:List DaD} {ts:List TyD} {q:List PaD} (h:Srch ds ts q [] none):False:=by
 generalize hr:(none:Option (List PaD))=r at h;generalize hR:([]:List (List PaD))=R at h;cases h with
 |done=>subst hR;simp at hr
 |free=>cases hr
 |conN=>exact rowsL_nil hR.symm
 |con=>exact rowsL_nil hR.symm
 |all=>exact rowsL_nil hR.symm
 |rest=>exact rowsL_nil hR.symm
theorem mono {ds:List DaD} {ts1:List TyD} {q1:List PaD} {rows1:List (List PaD)} {r1:Option (List PaD)} (hs:Srch ds ts1 q1 rows1 r1):∀ (ts0:List TyD) (q0s:List PaD) (ts:List TyD) (q:List PaD) (R:List (List PaD)),ts1=ts0++ts→q1=q0s++q→ts0.length=q0s.length→Srch ds ts q R none →
  (∀ r∈R,∃ pad:List PaD,pad.length=q0s.length∧(∀ p∈pad,p.open=true)∧pad++r∈rows1)→r1=none:=by
 have wl:∀ (c:CoD) (rs:List Row) (q0t:List PaD) (f:List PaD) (R:List (List PaD)),f.length=c.args.length →
   (∀ r∈R,∃ pad:List PaD,pad.length=q0t.length+1∧(∀ p∈pad,p.open=true)∧pad++r∈rowsL rs) →
   (∀ r∈R,∃ pad:List PaD,pad.length=(f++q0t).length∧(∀ p∈pad,p.open=true)∧pad++r∈under c rs):=by
  intro c rs q0t f R hf h r hr;obtain ⟨pad,h1,h2,h3⟩:=h r hr;cases pad with
  |nil=>simp at h1
  |cons o pad =>
   refine ⟨wilds c.args.length++pad,by simp at h1 ⊢;simp [wilds,hf,h1],fun p hp=>?_,?_⟩
   ·rcases List.mem_append.1 hp with hp|hp
    ·rw[List.eq_of_mem_replicate hp];rfl
    ·exact h2 p (by simp [hp])
   ·rw[List.append_assoc]
    exact under_mem (mem_rowsL.1 h3) (fields_open (h2 o (by simp)))
 have wu:∀ (c:CoD) (rs rs':List Row),(∀ r∈rowsL rs',∃ pad:List PaD,pad.length=0∧(∀ p∈pad,p.open=true)∧pad++r∈rowsL rs) →
   ∀ r∈under c rs',∃ pad:List PaD,pad.length=0∧(∀ p∈pad,p.open=true)∧pad++r∈under c rs:=by
  intro c rs rs' h r hr;obtain ⟨p,l,f,h1,h2,rfl⟩:=of_under hr;obtain ⟨pad,e,_,h3⟩:=h _ (mem_rowsL.2 h1);rw[List.length_eq_zero_iff.1 e,List.nil_append] at h3;exact ⟨[],rfl,by simp,(under_mem (mem_rowsL.1 h3) h2:f++l∈under c rs)⟩
 induction hs with
 |@done ts1 rows1 =>
  intro ts0 q0s ts q R e1 e2 e3 h hR;have hq:q0s=[]∧q=[]:=by simpa using e2.symm
  obtain ⟨rfl,rfl⟩:=hq;have hne:R≠[]:=by rintro rfl;exact srch_free h
  cases R with
  |nil=>exact absurd rfl hne
  |cons r R =>
   obtain ⟨pad,_,_,h3⟩:=hR r (by simp);cases rows1 with
   |nil=>cases h3
   |cons y ys =>
    rw[if_neg];simp;omega
 |@free ts1 p0 qt _ =>
  intro ts0 q0s ts q R e1 e2 e3 h hR;cases R with
  |nil=>exact (srch_free h).elim
  |cons r R=>obtain ⟨_,_,_,h3⟩:=hR r (by simp);cases h3
 |conN=>intros;rfl
 |@con t ts1 p0 qt r rs c x hb hk hn hB hs ih =>
  intro ts0 q0s ts q R e1 e2 e3 h hR;refine one_none' fun f hf=>?_
  cases q0s with
  |cons a q0t =>
   cases ts0 with
   |nil=>simp at e3
   |cons b ts0t =>
    simp only[List.cons_append,List.cons.injEq] at e1 e2;obtain ⟨rfl,rfl⟩:=e1;obtain ⟨rfl,rfl⟩:=e2;have hl:=fields_len hf;exact ih f hf (c.args++ts0t) (f++q0t) ts q R (by simp) (by simp) (by simp at e3 ⊢;omega) h (wl c _ q0t f R hl hR)
  |nil =>
   have hts:ts0=[]:=by simpa using e3
   subst hts;simp only[List.nil_append] at e1 e2;subst e1 e2;have hl:=fields_len hf;obtain ⟨T,Q,r0,hT,hQ,hr0,h⟩:∃ T Q r0,t::ts1=T∧p0::qt=Q∧(none:Option (List PaD))=r0∧Srch ds T Q R r0:=⟨_,_,_,rfl,rfl,rfl,h⟩
   cases h with
   |done=>cases hQ
   |free=>cases hr0
   |conN _ hk' hn'=>cases hT;cases hQ;rw[hn] at hn';cases hn'
   |con _ hk' hn' hB' hs' =>
    cases hT;cases hQ;rw[hn] at hn';cases hn';have hx:=one_none hf hr0;subst hx;exact ih f hf [] [] _ _ _ rfl rfl rfl (hs' f hf) (wu c _ _ hR)
   |all _ hk'=>cases hQ;rw[hk] at hk';cases hk'
   |rest _ _ hk'=>cases hQ;rw[hk] at hk';cases hk'
 |@all t ts1 p0 qt r rs X hb hk hm hB hs ih =>
  intro ts0 q0s ts q R e1 e2 e3 h hR;rw[List.findSome?_eq_none_iff];intro c hc;refine one_none' fun f hf=>?_
  have hl:=fields_len hf;cases q0s with
  |cons a q0t =>
   cases ts0 with
   |nil=>simp at e3
   |cons b ts0t =>
    simp only[List.cons_append,List.cons.injEq] at e1 e2;obtain ⟨rfl,rfl⟩:=e1;obtain ⟨rfl,rfl⟩:=e2;exact ih c hc f hf (c.args++ts0t) (f++q0t) ts q R (by simp) (by simp) (by simp at e3 ⊢;omega) h (wl c _ q0t f R hl hR)
  |nil =>
   have hts:ts0=[]:=by simpa using e3
   subst hts;simp only[List.nil_append] at e1 e2;subst e1 e2;obtain ⟨T,Q,r0,hT,hQ,hr0,h⟩:∃ T Q r0,t::ts1=T∧p0::qt=Q∧(none:Option (List PaD))=r0∧Srch ds T Q R r0:=⟨_,_,_,rfl,rfl,rfl,h⟩
   cases h with
   |done=>cases hQ
   |free=>cases hr0
   |conN _ hk' hn'=>cases hQ;rw[hk] at hk';cases hk'
   |con _ hk' hn' hB' hs'=>cases hQ;rw[hk] at hk';cases hk'
   |all _ hk' hm' hB' hs' =>
    cases hT;cases hQ;have hz:=List.findSome?_eq_none_iff.1 hr0.symm c hc;have hx:=one_none hf hz.symm;have h2:=hs' c hc f hf;rw[hx] at h2;exact ih c hc f hf [] [] _ _ _ rfl rfl rfl h2 (wu c _ _ hR)
   |rest _ _ hk' hm' hx' hs' =>
    cases hT;cases hQ;have hx:=Option.map_eq_none_iff.1 hr0.symm;subst hx;refine ih c hc f hf c.args f _ _ _ rfl rfl hl.symm hs' fun l hl'=>?_
    obtain ⟨p,h1,h2⟩:=of_rest hl';obtain ⟨pad,g1,_,g3⟩:=hR _ (mem_rowsL.2 h1);rw[List.length_eq_zero_iff.1 g1,List.nil_append] at g3;exact ⟨wilds c.args.length,by simp [wilds,hl],fun p hp=>by rw[List.eq_of_mem_replicate hp];rfl,under_mem (mem_rowsL.1 g3) (fields_open h2)⟩
 |@rest t ts1 p0 qt r rs x hb _ hk hm hx hs ih =>
  intro ts0 q0s ts q R e1 e2 e3 h hR;rw[Option.map_eq_none_iff];cases q0s with
  |cons a q0t =>
   cases ts0 with
   |nil=>simp at e3
   |cons b ts0t =>
    simp only[List.cons_append,List.cons.injEq] at e1 e2;obtain ⟨rfl,rfl⟩:=e1;obtain ⟨rfl,rfl⟩:=e2;refine ih ts0t q0t ts q R rfl rfl (by simpa using e3) h fun l hl=>?_
    obtain ⟨pad,g1,g2,g3⟩:=hR l hl;cases pad with
    |nil=>simp at g1
    |cons o pad=>exact ⟨pad,by simpa using g1,fun p hp=>g2 p (by simp [hp]),rest_mem (mem_rowsL.1 g3) (g2 o (by simp))⟩
  |nil =>
   have hts:ts0=[]:=by simpa using e3
   subst hts;simp only[List.nil_append] at e1 e2;subst e1 e2;obtain ⟨T,Q,r0,hT,hQ,hr0,h⟩:∃ T Q r0,t::ts1=T∧p0::qt=Q∧(none:Option (List PaD))=r0∧Srch ds T Q R r0:=⟨_,_,_,rfl,rfl,rfl,h⟩
   cases h with
   |done=>cases hQ
   |free=>cases hr0
   |conN _ hk' hn'=>cases hQ;rw[hk] at hk';cases hk'
   |con _ hk' hn' hB' hs'=>cases hQ;rw[hk] at hk';cases hk'
   |all _ hk' hm' hB' hs' =>
    cases hT;cases hQ;exfalso
    have:=miss_false.1 hm'
    have hm2:missD (headsD [] (r::rs)) ((((consD ds t).length:Nat):Int)==0) (consD ds t)=false:=by
     refine miss_false.2 ⟨this.1,fun c hc=>?_⟩;have h1:=this.2 c hc;rw[mem_heads] at h1 ⊢;rcases h1 with h1|⟨y,hy,h1,h2⟩
     ·exact .inl h1
     ·obtain ⟨pad,g1,_,g3⟩:=hR _ (mem_rowsL.2 (show (y.1,y.2)∈_ from hy))
      rw[List.length_eq_zero_iff.1 g1,List.nil_append] at g3;exact .inr ⟨_,mem_rowsL.1 g3,h1,h2⟩
    rw[hm] at hm2;cases hm2
   |rest _ _ hk' hm' hx' hs' =>
    cases hT;cases hQ;have hx:=Option.map_eq_none_iff.1 hr0.symm;subst hx;refine ih [] [] _ _ _ rfl rfl rfl hs' fun l hl=>?_
    obtain ⟨p,h1,h2⟩:=of_rest hl;obtain ⟨pad,g1,_,g3⟩:=hR _ (mem_rowsL.2 h1);rw[List.length_eq_zero_iff.1 g1,List.nil_append] at g3;exact ⟨[],rfl,by simp,rest_mem (mem_rowsL.1 g3) h2⟩
theorem thin_wilds (n:Nat):∀ a∈wilds n,Thin a:=fun a ha=>by
 rw[List.eq_of_mem_replicate ha];exact .mk (by simp [wildD,PaD.args,big]) (fun b hb=>by simp [wildD,PaD.args] at hb)
structure Inv (ts:List TyD) (q:List PaD) (rows:List (List PaD)) (m:Nat):Prop where
 tys:∀ t∈ts,TyB t
 len:ts.length=q.length
 row:∀ r∈rows,r.length=q.length
 bnd:q.length+16 * m+32 < big
 num:rows.length+2 < big
theorem total {ds:List DaD} (hd:DsB ds):∀ (m n:Nat) (ts:List TyD) (q:List PaD) (rows:List (List PaD)),PaD.nds q+ndR rows < m→q.length < n→Inv ts q rows (PaD.nds q+ndR rows) →
  ∃ r,Srch ds ts q rows r∧∀ l,r=some l→l.length=q.length∧((∀ p∈q,Thin p)→∀ p∈l,Thin p):=by
 intro m;induction m with
 |zero=>intro n ts q rows h;omega
 |succ m ihm =>
  intro n;induction n with
  |zero=>intro ts q rows _ h;omega
  |succ n ihn =>
   intro ts q rows hm hn hI;cases q with
   |nil =>
    refine ⟨_,.done,fun l hl=>?_⟩
    split at hl
    ·cases hl;simp
    ·cases hl
   |cons q0 qt =>
   cases hrows:rows with
   |nil=>exact ⟨_,.free (by have:=hI.bnd;simp at this;omega),fun l hl=>by cases hl;exact ⟨rfl,fun h=>h⟩⟩
   |cons row0 rowst =>
   rw[←hrows];cases ts with
   |nil=>have:=hI.len;simp at this
   |cons t ts =>
   have hne:∀ r∈rows,r≠[]:=fun r hr e=>by have:=hI.row r hr;rw[e] at this;simp at this
   obtain ⟨rs,hrs⟩:=rows_rowsL rows hne;cases rs with
   |nil=>rw[hrs] at hrows;cases hrows
   |cons r rs =>
   clear hrows row0 rowst;subst hrs;have htB:=hI.tys t (by simp);have hcB:=cons_B hd htB;have hb3:rs.length+3 < big:=by have:=hI.num;rw[rowsL_len] at this;simp at this;omega
   have hb:rs.length+2 < big:=by omega
   have hrow:∀ y∈r::rs,y.2.length=qt.length:=fun y hy=>by
    have:=hI.row (y.1::y.2) (mem_rowsL.2 hy)
    simpa using this
   have hbn:=hI.bnd;have htl:ts.length=qt.length:=by have:=hI.len;simpa using this
   have step:∀ c∈consD ds t,(∀ f,fieldsD q0 c=some f→PaD.nds (f++qt)+ndR (under c (r::rs)) < PaD.nds (q0::qt)+ndR (rowsL (r::rs))) →
     ∃ x,Bnd c ts qt (r::rs) x∧(∀ f,fieldsD q0 c=some f→Srch ds (c.args++ts) (f++qt) (under c (r::rs)) x)∧(∀ l,oneR (q0,qt) c x=some l→l.length=(q0::qt).length∧((∀ p∈q0::qt,Thin p)→∀ p∈l,Thin p)):=by
    intro c hc hlt;obtain ⟨hc1,hc2⟩:=hcB c hc;cases hf:fieldsD q0 c with
    |none =>
     refine ⟨none,⟨hc1,by simp at hbn;omega,by simp at hbn;omega,fun y hy=>by rw[hrow y hy];simp at hbn;omega,fun l hl=>(by cases hl)⟩,fun f h=>(by cases h),fun l hl=>?_⟩;simp [oneR] at hl
     split at hl <;> cases hl
    |some f =>
     have hfl:=fields_len hf;have h1:=hlt f hf
     have hI':Inv (c.args++ts) (f++qt) (under c (r::rs)) (PaD.nds (f++qt)+ndR (under c (r::rs))):=by
      refine ⟨fun a ha=>?_,by simp [hfl,htl],fun y hy=>?_,?_,?_⟩
      ·rcases List.mem_append.1 ha with ha|ha
       ·exact hc2 a ha
       ·exact hI.tys a (by simp [ha])
      ·obtain ⟨p,l,g,g1,g2,rfl⟩:=of_under hy
       have:=hrow _ g1
       simp only at this;simp [fields_len g2,hfl,this]
      ·simp only[List.length_append,List.length_cons] at hbn ⊢;omega
      ·have:=under_len c (r::rs)
       simp only[List.length_cons] at this;omega
     obtain ⟨x,hx1,hx2⟩:=ihm _ _ _ _ (by omega) (Nat.lt_succ_self _) hI';refine ⟨x,⟨hc1,by simp at hbn;omega,by simp at hbn;omega,fun y hy=>by rw[hrow y hy];simp at hbn;omega,fun l hl=>?_⟩,fun g hg=>by cases hg;exact hx1,fun l hl=>?_⟩
     ·have:=(hx2 l hl).1
      simp only[List.length_append,List.length_cons] at this hbn;omega
     ·simp only[oneR,hf] at hl
      cases x with
      |none=>cases hl
      |some l' =>
       obtain ⟨e1,e2⟩:=hx2 l' rfl;simp only[Option.some.injEq] at hl;subst hl;simp only[List.length_append] at e1;refine ⟨by simp only[List.length_cons,List.length_drop];omega,fun hT=>?_⟩
       have hTl:∀ p∈l',Thin p:=e2 fun p hp=>by
        rcases List.mem_append.1 hp with hp|hp
        ·simp only[fieldsD] at hf
         split at hf
         ·cases hf;exact thin_wilds _ p hp
         ·split at hf
          ·cases hf
           have:=hT q0 (by simp)
           cases this with
           |mk _ h=>exact h p hp
          ·cases hf
        ·exact hT p (by simp [hp])
       intro p hp;rcases List.mem_cons.1 hp with hp|hp
       ·subst hp
        refine .mk ?_ fun a ha=>hTl a (List.mem_of_mem_take ha)
        simp only[PaD.args,List.length_take,big];omega
       ·exact hTl p (List.mem_of_mem_drop hp)
   cases hk:(q0.kind==3) with
   |true =>
    have ho:=open_kind hk;cases hfd:(consD ds t).find? (fun c=>c.name==q0.name) with
    |none=>exact ⟨_,.conN hb hk hfd,fun l hl=>by cases hl⟩
    |some c =>
     have hc:=List.mem_of_find?_eq_some hfd
     obtain ⟨x,hx1,hx2,hx3⟩:=step c hc fun f hf=>by
      have h1:=(fields_nd hf).2 ho;have h2:=ndR_under c (r::rs);simp only[nds_append,PaD.nds];omega
     exact ⟨_,.con hb hk hfd hx1 hx2,hx3⟩
   |false =>
    cases hmm:missD (headsD [] (r::rs)) ((((consD ds t).length:Nat):Int)==0) (consD ds t) with
    |false =>
     have hmf:=miss_false.1 hmm
     have hst:∀ c:CoD,∃ x,c∈consD ds t→(Bnd c ts qt (r::rs) x∧(∀ f,fieldsD q0 c=some f→Srch ds (c.args++ts) (f++qt) (under c (r::rs)) x)∧(∀ l,oneR (q0,qt) c x=some l→l.length=(q0::qt).length∧((∀ p∈q0::qt,Thin p)→∀ p∈l,Thin p))):=by
      intro c;by_cases hc:c∈consD ds t
      ·obtain ⟨x,hx⟩:=step c hc fun f hf=>by
        have h1:=(fields_nd hf).1;have h2:=hmf.2 c hc;rw[mem_heads] at h2;rcases h2 with h2|⟨y,hy,h3,_⟩
        ·cases h2
        ·have h4:=ndR_under_lt c (open_kind h3) hy
         simp only[nds_append,PaD.nds];omega
       exact ⟨x,fun _=>hx⟩
      ·exact ⟨none,fun h=>absurd h hc⟩
     have hX:=fun c=>Classical.choose_spec (hst c)
     refine ⟨_,.all (X:=fun c=>Classical.choose (hst c)) hb hk hmm (fun c hc=>(hX c hc).1) (fun c hc=>(hX c hc).2.1),fun l hl=>?_⟩;obtain ⟨c,hc,h1⟩:=List.exists_of_findSome?_eq_some hl;exact (hX c hc).2.2 l h1
    |true =>
     have h1:=ndR_rest (r::rs)
     obtain ⟨x,hx1,hx2⟩:=ihn ts qt (restD (r::rs)) (by simp only[PaD.nds] at hm;omega) (by simp at hn;omega) (by
      refine ⟨fun a ha=>hI.tys a (by simp [ha]),htl,fun y hy=>?_,?_,?_⟩
      ·obtain ⟨p,g1,_⟩:=of_rest hy
       exact hrow _ g1
      ·simp only[PaD.nds,List.length_cons] at hbn ⊢;omega
      ·have:=rest_len (r::rs);simp only[List.length_cons] at this;omega)
     refine ⟨_,.rest hb (fun c hc=>(hcB c hc).1) hk hmm (fun l hl=>?_) hx1,fun l hl=>?_⟩
     ·have:=(hx2 l hl).1
      simp only[List.length_cons] at hbn;omega
     ·cases x with
      |none=>cases hl
      |some l' =>
       obtain ⟨e1,e2⟩:=hx2 l' rfl;simp only[Option.map_some,Option.some.injEq] at hl;subst hl;refine ⟨by simp [e1],fun hT p hp=>?_⟩;rcases List.mem_cons.1 hp with hp|hp
       ·subst hp
        simp only[beginD];split
        ·exact thin_wilds 1 _ (by simp [wilds])
        ·split
         ·rename_i c hc
          have:=(hcB c (List.mem_of_find?_eq_some hc)).1
          refine .mk (by simp [emptyD,PaD.args,wilds,big];omega) fun a ha=>?_
          simp only[emptyD,PaD.args] at ha;exact thin_wilds _ a ha
         ·exact thin_wilds 1 _ (by simp [wilds])
       ·exact e2 (fun p hp=>hT p (by simp [hp])) p hp
end Go.Proofs.YtkmnkiekmlcfdaaGreatDoor
end
end
section
namespace Go.Proofs.YtkmnkiekmlcfdaaGreatDoor
open Go.AM
section
open Go.AM
set_option maxRecDepth 100000
set_option maxHeartbeats 1000000
variable {kd:List UInt8→Int}
def usel (R:Nat→Option (List PaD)):Nat→List PaD→List Nat
 |_,[]=>[]
 |i,_::ys=>bif (R i).isSome then usel R (i+1) ys else i::usel R (i+1) ys
theorem loop51 {ds:List DaD} (h:DsOk ds) (t:TyD) (R:Nat→Option (List PaD)) (sto:Sto) (hlo:sto.lo≤sto.objs.length) (l0:List PaD) (hR:∀ i y,l0[i]?=some y→Srch ds [t] [y] (singleD (l0.take i)) (R i)) (ys:List PaD):∀ (pre:List PaD) (X:List AVal),l0=pre++ys→(pre++ys).length+1 < big→X.length+ys.length+1 < big →
  ∃ s0 s1 s2 s4 s6 s8 s10 s12 s13 s14 s35,LP kd 51 (loopOf Tryz.f51 0) ⟨[.val (.slice (ds.map DaD.enc)),.dead,.val (.slice (l0.map PaD.enc)),.box [.val (.str t.name),.val (.slice (t.args.map TyD.enc))],.dead,.own 1 X,.dead,.dead,.val (.int .i64 (l0.length:Nat)),.val (.int .i64 (pre.length:Nat)),.dead,.dead],sto⟩ =
   some (.exit 0,⟨[s0,s1,s2,s4,s6,.own 1 (X++(usel R pre.length ys).map intE),s8,s10,s12,s13,s14,s35],sto⟩):=by
 induction ys with
 |nil =>
  intro pre X hl h3 h4;subst hl;have hlt:=gtI pre;simp only[usel,List.map_nil,List.append_nil] at hlt ⊢;iterate 11 apply Exists.intro
  refine tJ rfl ?_;repeat first|with_reducible constructor|(with_reducible apply tG);kernel_rfl;intro _ _;(repeat apply tOp;intro _;simp only[go_sem];rfl);rfl;simp only[go_sem];rfl
  (with_reducible apply tF);simp only[go_sem];rfl;exact hlt;refine tQ ?_;repeat with_reducible constructor
  exact tlX;all_goals exact .dead
 |cons y ys ih =>
  intro pre X hl h3 h4;have hsr:=hR pre.length y (by rw[hl];simp);have htk:l0.take pre.length=pre:=by rw[hl];simp
  rw[htk] at hsr;have hll:l0.length=(pre++y::ys).length:=by rw[hl]
  have hlt:=ltI pre ys y;rw[←hll] at hlt h3;have h0:=zI pre.length;have hw:IntKind.i64.wrap (((pre.length:Nat):Int)+1)=((pre++[y]).length:Nat):=by rw[wI _ (by rw[hll] at h3;simp at h3;omega)];simp
  have hr:=roomI X (by simp at h4;omega)
  have hcut:((l0.map PaD.enc).take (((pre++[y]).length:Nat):Int).toNat).drop ((pre.length:Nat):Int).toNat=[.agg [.int .i64 y.kind,.str y.name,.slice (y.args.map PaD.enc)]]:=by
   rw[←y.enc_eq,Int.toNat_natCast,Int.toNat_natCast]
   have:l0.map PaD.enc=(pre.map PaD.enc++[y.enc])++ys.map PaD.enc:=by rw[hl];simp
   rw[this,List.take_left' (by simp),List.drop_left' (by simp)]
  have hcut2:(l0.map PaD.enc).take ((pre.length:Nat):Int).toNat=pre.map PaD.enc:=by
   rw[Int.toNat_natCast,hl,List.map_append,List.take_left' (by simp)]
  have hle:decide (((pre.length:Nat):Int)≤(((pre++[y]).length:Nat):Int))=true:=by simp;omega
  have hle2:decide ((((pre++[y]).length:Nat):Int)≤((l0.length:Nat):Int))=true:=by rw[hll];simp;omega
  have hle3:decide (((pre.length:Nat):Int)≤((l0.length:Nat):Int))=true:=by rw[hll];simp;omega
  have heq:decide ((((pre++[y]).length:Nat):Int)=(((pre++[y]).length:Nat):Int))=true:=by simp
  have heq3:decide (((pre.length:Nat):Int)=((pre.length:Nat):Int))=true:=by simp
  have hd3:=head3 pre;have hd1:headOk 3 [.agg [.int .i64 y.kind,.str y.name,.slice (y.args.map PaD.enc)]]=true:=rfl;have h98:=c98 (kd:=kd) pre (by rw[hll] at h3;simp at h3 ⊢;omega) sto;have h97:=c97 (kd:=kd) h hsr sto hlo;simp only[List.map_cons,List.map_nil,resS] at h97;rw[t.enc_eq,y.enc_eq] at h97;cases hq:R pre.length with
  |some w =>
   obtain ⟨s0,s1,s2,s4,s6,s8,s10,s12,s13,s14,s35,ih⟩:=ih (pre++[y]) X (by rw[hl];simp) (by rw[←List.append_cons,←hll];exact h3) (by simp at h4 ⊢;omega);rw[show (pre++[y]).length=pre.length+1 by simp] at ih;simp only[usel,hq,Option.isSome_some,cond_true];rw[hq] at h97;simp only[Option.isSome_some,Option.getD_some] at h97;refine ⟨s0,s1,s2,s4,s6,s8,s10,s12,s13,s14,s35,?_⟩;refine tJ rfl ?_;repeat first|with_reducible constructor|(with_reducible apply tG);kernel_rfl;intro _ _;(repeat apply tOp;intro _;simp only[go_sem];rfl);rfl;simp only[go_sem];rfl
   (with_reducible apply tT);simp only[go_sem];rfl;exact hlt;refine tQ ?_;repeat first|with_reducible constructor|(with_reducible apply tG);kernel_rfl;intro _ _;(repeat apply tOp;intro _;simp only[d00,n0,h0,hw,hr,hcut,hcut2,hle,hle2,hle3,heq,heq3,hd3,hd1,Bool.false_eq_true,h98,h97,ann97,setElems,clean,flat,List.replicate,List.set_cons_zero,List.length_map,go_sem,Nat.reduceAdd,reduceIte];rfl);rfl;simp only[go_sem];rfl
   (with_reducible apply tF);simp only[go_sem];rfl;rfl;refine tQ ?_;repeat first|with_reducible constructor|(with_reducible apply tG);kernel_rfl;intro _ _;(repeat apply tOp;intro _;simp only[hw,List.length_append,List.length_cons,List.length_nil,go_sem];rfl);rfl;simp only[go_sem];rfl
   exact ih
  |none =>
   obtain ⟨s0,s1,s2,s4,s6,s8,s10,s12,s13,s14,s35,ih⟩:=ih (pre++[y]) (X++[intE pre.length]) (by rw[hl];simp) (by rw[←List.append_cons,←hll];exact h3) (by simp at h4 ⊢;omega);rw[show (pre++[y]).length=pre.length+1 by simp] at ih;simp only[List.append_assoc,List.singleton_append] at ih;simp only[usel,hq,Option.isSome_none,cond_false,List.map_cons];rw[hq] at h97;simp only[Option.isSome_none,Option.getD_none,List.map_nil] at h97;refine ⟨s0,s1,s2,s4,s6,s8,s10,s12,s13,s14,s35,?_⟩;refine tJ rfl ?_;repeat first|with_reducible constructor|(with_reducible apply tG);kernel_rfl;intro _ _;(repeat apply tOp;intro _;simp only[go_sem];rfl);rfl;simp only[go_sem];rfl
   (with_reducible apply tT);simp only[go_sem];rfl;exact hlt;refine tQ ?_;repeat first|with_reducible constructor|(with_reducible apply tG);kernel_rfl;intro _ _;(repeat apply tOp;intro _;simp only[d00,n0,h0,hw,hr,hcut,hcut2,hle,hle2,hle3,heq,heq3,hd3,hd1,Bool.false_eq_true,h98,h97,ann97,setElems,clean,flat,List.replicate,List.set_cons_zero,List.length_map,go_sem,Nat.reduceAdd,reduceIte];rfl);rfl;simp only[go_sem];rfl
   (with_reducible apply tT);simp only[go_sem];rfl;rfl;refine tQ ?_;repeat first|with_reducible constructor|(with_reducible apply tG);kernel_rfl;intro _ _;(repeat apply tOp;intro _;simp only[hw,hr,setElems,clean,flat,List.replicate,List.set_cons_zero,List.length_append,List.length_cons,List.length_nil,go_sem];rfl);rfl;simp only[go_sem];rfl
   exact ih
theorem c51 {ds:List DaD} (h:DsOk ds) (t:TyD) (R:Nat→Option (List PaD)) (l:List PaD) (hl:l.length+1 < big) (hR:∀ i y,l[i]?=some y→Srch ds [t] [y] (singleD (l.take i)) (R i)) (sto:Sto) (hlo:sto.lo≤sto.objs.length) :
  CF kd (.fn 51) [.val (.slice (ds.map DaD.enc)),.val t.enc,.val (.slice (l.map PaD.enc))] sto=some (.ret (.val (.slice ((usel R 0 l).map intE))),sto):=by
 obtain ⟨s0,s1,s2,s4,s6,s8,s10,s12,s13,s14,s35,hlp⟩:=loop51 (kd:=kd) h t R sto hlo l hR l [] [] rfl (by simpa using hl) (by simpa using hl);simp only[List.nil_append,List.length_nil] at hlp;have e0:((0:Nat):Int)=0:=rfl;rw[e0] at hlp;rw[t.enc_eq];apply tA;rfl;rfl;exact Tryz.func51;rfl;rfl;simp only[go_sem];rfl;refine tQ ?_;repeat first|with_reducible constructor|(with_reducible apply tG);kernel_rfl;intro _ _;(repeat apply tOp;intro _;simp only[List.length_map,go_sem];rfl);rfl;simp only[go_sem];rfl|(with_reducible apply tM);assumption
 exact fin0 rfl
theorem c9e {ds:List DaD} (h:DsOk ds) (t:TyD) (ht:t.size < big) (l:List PaD) (hl:PaD.sizes l+1 < big) (he:(chkPs (isK kd 4) (isK kd 3) (isK kd 2) ds t l != 0)=true) (sto:Sto) (hlo:sto.lo≤sto.objs.length) :
  CF kd (.fn 9) [.val (.slice (ds.map DaD.enc)),.val t.enc,.val (.slice (l.map PaD.enc))] sto=some (.ret (.tup [zeroPa.enc,.bool false,.int .i64 (chkPs (isK kd 4) (isK kd 3) (isK kd 2) ds t l)]),sto):=by
 have h39:=c39 (kd:=kd) h t ht l hl sto hlo;rw[t.enc_eq] at h39 ⊢;rw[zeroPa_enc];apply tA;rfl;rfl;exact Tryz.func9;rfl;rfl;simp only[go_sem];rfl;refine tQ ?_;repeat first|with_reducible constructor|(with_reducible apply tG);kernel_rfl;intro _ _;(repeat apply tOp;intro _;simp only[h39,go_sem];rfl);rfl;simp only[go_sem];rfl|(with_reducible apply t1);rfl;trivial
 exact fin0 rfl
theorem c9o {ds:List DaD} (h:DsOk ds) (t:TyD) (ht:t.size < big) (l:List PaD) (hl:PaD.sizes l+1 < big) (he:chkPs (isK kd 4) (isK kd 3) (isK kd 2) ds t l=0) {r:Option (List PaD)} (hs:Srch ds [t] [wildD] (singleD l) r) (hw:∀ w,r=some w→∃ w0 w',w=w0::w'∧Thin w0) (sto:Sto) (hlo:sto.lo≤sto.objs.length) :
  CF kd (.fn 9) [.val (.slice (ds.map DaD.enc)),.val t.enc,.val (.slice (l.map PaD.enc))] sto=some (.ret (.tup [(coverR r).enc,.bool (!r.isSome),.int .i64 0]),sto):=by
 have hll:=PaD.sizes_len l;have h39:=c39 (kd:=kd) h t ht l hl sto hlo;have h49:=c49 (kd:=kd) h t l (by omega) hs hw sto hlo;rw[he] at h39;rw[t.enc_eq] at h39 h49 ⊢;rw[(coverR r).enc_eq] at h49 ⊢;apply tA;rfl;rfl;exact Tryz.func9;rfl;rfl;simp only[go_sem];rfl;refine tQ ?_;repeat first|with_reducible constructor|(with_reducible apply tG);kernel_rfl;intro _ _;(repeat apply tOp;intro _;simp only[h39,h49,go_sem];rfl);rfl;simp only[go_sem];rfl|(with_reducible apply t0);rfl;trivial
 exact fin0 rfl
theorem c11e {ds:List DaD} (h:DsOk ds) (t:TyD) (ht:t.size < big) (l:List PaD) (hl:PaD.sizes l+1 < big) (he:(chkPs (isK kd 4) (isK kd 3) (isK kd 2) ds t l != 0)=true) (sto:Sto) (hlo:sto.lo≤sto.objs.length) :
  CF kd (.fn 11) [.val (.slice (ds.map DaD.enc)),.val t.enc,.val (.slice (l.map PaD.enc))] sto=some (.ret (.tup [.slice [],.int .i64 (chkPs (isK kd 4) (isK kd 3) (isK kd 2) ds t l)]),sto):=by
 have h39:=c39 (kd:=kd) h t ht l hl sto hlo;rw[t.enc_eq] at h39 ⊢;apply tA;rfl;rfl;exact Tryz.func11;rfl;rfl;simp only[go_sem];rfl;refine tQ ?_;repeat first|with_reducible constructor|(with_reducible apply tG);kernel_rfl;intro _ _;(repeat apply tOp;intro _;simp only[h39,go_sem];rfl);rfl;simp only[go_sem];rfl|(with_reducible apply t1);rfl;trivial
 exact fin0 rfl
theorem c11o {ds:List DaD} (h:DsOk ds) (t:TyD) (ht:t.size < big) (l:List PaD) (hl:PaD.sizes l+1 < big) (he:chkPs (isK kd 4) (isK kd 3) (isK kd 2) ds t l=0) (R:Nat→Option (List PaD)) (hR:∀ i y,l[i]?=some y→Srch ds [t] [y] (singleD (l.take i)) (R i)) (sto:Sto) (hlo:sto.lo≤sto.objs.length) :
  CF kd (.fn 11) [.val (.slice (ds.map DaD.enc)),.val t.enc,.val (.slice (l.map PaD.enc))] sto=some (.ret (.tup [.slice ((usel R 0 l).map intE),.int .i64 0]),sto):=by
 have hll:=PaD.sizes_len l;have h39:=c39 (kd:=kd) h t ht l hl sto hlo;have h51:=c51 (kd:=kd) h t R l (by omega) hR sto hlo;rw[he] at h39;rw[t.enc_eq] at h39 h51 ⊢;apply tA;rfl;rfl;exact Tryz.func11;rfl;rfl;simp only[go_sem];rfl;refine tQ ?_;repeat first|with_reducible constructor|(with_reducible apply tG);kernel_rfl;intro _ _;(repeat apply tOp;intro _;simp only[h39,h51,go_sem];rfl);rfl;simp only[go_sem];rfl|(with_reducible apply t0);rfl;trivial
 exact fin0 rfl
end
section
open Go.AM
set_option maxRecDepth 100000
set_option maxHeartbeats 1000000
variable {kd:List UInt8→Int}
abbrev mid:Nat:=16777216
theorem chkPs_T {vr cn nm:List UInt8→Bool} {ds:List DaD} {t:TyD} {l:List PaD} (h:chkPs vr cn nm ds t l=0):chkT vr cn ds t=true:=by
 simp only[chkPs] at h;cases hc:chkT vr cn ds t with
 |true=>rfl
 |false=>rw[hc] at h;simp at h
theorem ndR_single:∀ l:List PaD,ndR (singleD l)=PaD.nds l
 |[]=>rfl
 |p::l=>by
  have:=ndR_single l
  simp only[singleD,List.map_cons,ndR,PaD.nds] at this ⊢;omega
theorem single_row {l:List PaD}:∀ r∈singleD l,r.length=1:=fun r hr=>by
 simp only[singleD,List.mem_map] at hr;obtain ⟨a,_,rfl⟩:=hr;rfl
theorem nds_take:∀ (l:List PaD) (i:Nat),PaD.nds (l.take i)≤PaD.nds l
 |[],i=>by simp [PaD.nds]
 |p::l,0=>by simp [PaD.nds]
 |p::l,i+1=>by
  have:=nds_take l i
  simp only[List.take_succ_cons,PaD.nds];omega
theorem nd_mem:∀ {l:List PaD} {p:PaD},p∈l→p.nd≤PaD.nds l
 |x::l,p,h=>by
  simp only[PaD.nds];rcases List.mem_cons.1 h with h|h
  ·subst h;omega
  ·have:=nd_mem h;omega
theorem srchC {vr cn nm:List UInt8→Bool} {ds:List DaD} {t:TyD} {l:List PaD} (hl:PaD.sizes l+10 < mid) (h:chkPs vr cn nm ds t l=0):∃ r,Srch ds [t] [wildD] (singleD l) r∧∀ w,r=some w→∃ w0 w',w=w0::w'∧Thin w0:=by
 obtain ⟨hd,ht⟩:=chk_B (chkPs_T h);have h1:=nds_sizes l;have h2:=ndR_single l;have h3:=PaD.sizes_len l;have h4:PaD.nds [wildD]=0:=nds_wilds 1;obtain ⟨r,hr,hx⟩:=total hd _ _ [t] [wildD] (singleD l) (Nat.lt_succ_self _) (Nat.lt_succ_self _) ⟨fun a ha=>by simp at ha;subst ha;exact ht,rfl,single_row,by simp only[List.length_cons,List.length_nil,big];simp only[mid] at hl;omega,by simp only[singleD,List.length_map,big];simp only[mid] at hl;omega⟩;refine ⟨r,hr,fun w hw=>?_⟩;obtain ⟨e1,e2⟩:=hx w hw;cases w with
 |nil=>cases e1
 |cons w0 w'=>exact ⟨w0,w',rfl,e2 (fun p hp=>thin_wilds 1 p (by simpa [wilds] using hp)) w0 (by simp)⟩
theorem srchU {vr cn nm:List UInt8→Bool} {ds:List DaD} {t:TyD} {l:List PaD} (hl:PaD.sizes l+10 < mid) (h:chkPs vr cn nm ds t l=0):∃ R:Nat→Option (List PaD),∀ i y,l[i]?=some y→Srch ds [t] [y] (singleD (l.take i)) (R i):=by
 obtain ⟨hd,ht⟩:=chk_B (chkPs_T h)
 have key:∀ i,∃ r:Option (List PaD),∀ y,l[i]?=some y→Srch ds [t] [y] (singleD (l.take i)) r:=by
  intro i;cases hy:l[i]? with
  |none=>exact ⟨none,fun y h=>by cases h⟩
  |some y =>
   have h1:=nds_sizes l;have h2:=ndR_single (l.take i);have h3:=PaD.sizes_len l;have h4:=nds_take l i;have h5:=nd_mem (List.mem_of_getElem? hy);obtain ⟨r,hr,_⟩:=total hd _ _ [t] [y] (singleD (l.take i)) (Nat.lt_succ_self _) (Nat.lt_succ_self _) ⟨fun a ha=>by simp at ha;subst ha;exact ht,rfl,single_row,by simp only[PaD.nds,List.length_cons,List.length_nil,big];simp only[mid] at hl;omega,by simp only[singleD,List.length_map,List.length_take,big];simp only[mid] at hl;omega⟩;exact ⟨r,fun y' hy'=>by cases hy';exact hr⟩
 exact ⟨fun i=>Classical.choose (key i),fun i=>Classical.choose_spec (key i)⟩
theorem usel_len {R:Nat→Option (List PaD)}:∀ (ys:List PaD) (i:Nat),(usel R i ys).length≤ys.length
 |[],i=>Nat.le_refl _
 |y::ys,i=>by
  have:=usel_len (R:=R) ys (i+1)
  simp only[usel];cases (R i).isSome <;> simp only[cond_false,cond_true,List.length_cons] <;> omega
def askE (ds:List DaD) (t:TyD) (l:List PaD):AVal:=.agg [.slice (ds.map DaD.enc),.str t.name,.slice (t.args.map TyD.enc),.slice (l.map PaD.enc)]
end
end Go.Proofs.YtkmnkiekmlcfdaaGreatDoor
end
