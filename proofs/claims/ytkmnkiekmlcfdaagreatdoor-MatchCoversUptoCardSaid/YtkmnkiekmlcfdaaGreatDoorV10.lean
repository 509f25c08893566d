/- Part V10 of the proof of one law of the program. -/
import Derived.Test.YtkmnkiekmlcfdaaGreatDoorS16
import Derived.Test.YtkmnkiekmlcfdaaGreatDoorV09
set_option linter.all false
section
section
namespace Go.Proofs.YtkmnkiekmlcfdaaGreatDoor
open Go.AM
set_option maxRecDepth 100000
theorem dist_mem:∀ (l N:List (List UInt8)),distN N l=true→∀ x∈N,x∉l
 |[],_,_,_,_,h=>by cases h
 |y::ys,N,hd,x,hx,h=>by
  simp only[distN,Bool.and_eq_true,Bool.not_eq_true',List.any_eq_false,beq_iff_eq] at hd;rcases List.mem_cons.1 h with e|h
  ·exact hd.1 x hx e
  ·exact dist_mem ys (N++[y]) hd.2 x (by simp [hx]) h
theorem dist_nodup:∀ (l N:List (List UInt8)),distN N l=true→l.Nodup
 |[],_,_=>.nil
 |y::ys,N,hd=>by
  have h0:=hd;simp only[distN,Bool.and_eq_true] at hd;exact List.nodup_cons.2 ⟨dist_mem ys (N++[y]) hd.2 y (by simp),dist_nodup ys _ hd.2⟩
theorem dist_con:∀ (ds:List DaD) (N:List (List UInt8)),distN N (conNames ds)=true→∀ d∈ds,(d.cons.map CoD.name).Nodup
 |[],_,_,_,h=>by cases h
 |y::ys,N,hd,d,h=>by
  simp only[conNames,distN_app,Bool.and_eq_true] at hd;rcases List.mem_cons.1 h with e|h
  ·subst e;exact dist_nodup _ _ hd.1
  ·exact dist_con ys _ hd.2 d h
theorem find_self:∀ (cs:List CoD),(cs.map CoD.name).Nodup→∀ c∈cs,cs.find? (fun x=>x.name==c.name)=some c
 |[],_,_,h=>by cases h
 |y::ys,hn,c,h=>by
  rw[List.map_cons,List.nodup_cons] at hn;rw[List.find?_cons];rcases List.mem_cons.1 h with e|h
  ·subst e;simp
  ·have hne:(y.name==c.name)=false:=by
    rw[beq_eq_false_iff_ne];intro e;exact hn.1 (e▸List.mem_map.2 ⟨c,h,rfl⟩)
   rw[hne];exact find_self ys hn.2 c h
def Self (ds:List DaD):Prop:=∀ t,∀ c∈consD ds t,(consD ds t).find? (fun x=>x.name==c.name)=some c
theorem self_of {vr cn:List UInt8→Bool} {ds:List DaD} {t:TyD} (h:chkT vr cn ds t=true):Self ds:=by
 intro t;refine find_self _ ?_;simp only[consD];split
 ·simp
 ·split
  ·simp
  ·rename_i d hd
   have e:(d.cons.map (putC (ofD d.vars t.args))).map CoD.name=d.cons.map CoD.name:=by
    rw[List.map_map];rfl
   rw[e];rcases findD_mem hd with rfl|hm
   ·simp [truthsD]
   ·simp only[chkT,declD,badN,Bool.and_eq_true,Bool.not_eq_true',Bool.or_eq_false_iff,Bool.not_eq_false'] at h
    have h1:=h.1.1.2.2;unfold diffD at h1;rw[distN_same _ _ [[70,97,108,115,101],[84,114,117,101]] (fun x=>by show x∈[[70,97,108,115,101],[84,114,117,101]]↔_;exact Iff.rfl)] at h1;exact dist_con ds _ h1 d hm
def Fit (nm:List UInt8→Bool) (ds:List DaD):List TyD→List PaD→Prop
 |[],[]=>True
 |t::ts,p::l=>formedD nm ds t p=true∧Fit nm ds ts l
 |_,_=>False
theorem Fit.app {nm:List UInt8→Bool} {ds:List DaD}:∀ {bs ts:List TyD} {l m:List PaD},Fit nm ds bs l→Fit nm ds ts m→Fit nm ds (bs++ts) (l++m)
 |[],_,[],_,_,h=>h
 |[],_,_::_,_,h,_=>h.elim
 |_::_,_,[],_,h,_=>h.elim
 |_::_,_,_::_,_,h,h2=>⟨h.1,Fit.app h.2 h2⟩
theorem formed_wild (nm:List UInt8→Bool) (ds:List DaD) (t:TyD):formedD nm ds t wildD=true:=by
 rw[formedD_eq];rfl
theorem fit_wilds (nm:List UInt8→Bool) (ds:List DaD):∀ ts:List TyD,Fit nm ds ts (wilds ts.length)
 |[]=>trivial
 |t::ts=>⟨formed_wild nm ds t,fit_wilds nm ds ts⟩
theorem fit_formedL {nm:List UInt8→Bool} {ds:List DaD}:∀ {ts:List TyD} {l:List PaD},ts.length=l.length→formedL nm ds ts l=true→Fit nm ds ts l
 |[],[],_,_=>trivial
 |[],_::_,h,_=>by cases h
 |_::_,[],h,_=>by cases h
 |t::ts,p::l,h,hf=>by
  rw[formedL_cons,Bool.and_eq_true] at hf;exact ⟨hf.1,fit_formedL (by simpa using h) hf.2⟩
theorem formed_cases {nm:List UInt8→Bool} {ds:List DaD} {t:TyD} {p:PaD} (h:formedD nm ds t p=true) :
  (p.open=true∧(p.kind != 3)=true∧p.args=[])∨(p.open=false∧(p.kind==3)=true∧(p.kind != 3)=false∧∃ c,(consD ds t).find? (fun c=>c.name==p.name)=some c∧c.args.length=p.args.length∧Fit nm ds c.args p.args):=by
 rw[formedD_eq] at h
 have hnil:(((p.args.length:Nat):Int)==0)=true→p.args=[]:=fun e=>by
  rw[beq_iff_eq] at e;exact List.length_eq_zero_iff.1 (by omega)
 cases h1:(p.kind==1) with
 |true =>
  have hk:p.kind=1:=by simpa using h1
  simp only[h1,if_true,Bool.and_eq_true] at h;exact .inl ⟨by simp [PaD.open,hk],by rw[hk];rfl,hnil h.2⟩
 |false =>
  cases h2:(p.kind==2) with
  |true =>
   have hk:p.kind=2:=by simpa using h2
   simp only[h1,h2,if_true,Bool.false_eq_true,if_false,Bool.and_eq_true] at h;exact .inl ⟨by simp [PaD.open,hk],by rw[hk];rfl,hnil h.2⟩
  |false =>
   cases h3:(p.kind==3) with
   |false=>simp [h1,h2,h3] at h
   |true =>
    have hk:p.kind=3:=by simpa using h3
    simp only[h1,h2,h3,if_true,Bool.false_eq_true,if_false] at h;refine .inr ⟨open_kind h3,rfl,by rw[hk];rfl,?_⟩;cases hc:(consD ds t).find? (fun c=>c.name==p.name) with
    |none=>rw[hc] at h;cases h
    |some c =>
     rw[hc] at h;simp only at h
     split at h
     ·cases h
     ·rename_i hl
      have hl:c.args.length=p.args.length:=by
       simp only[bne_iff_ne,ne_eq,Decidable.not_not] at hl;omega
      exact ⟨c,rfl,hl,fit_formedL hl h⟩
theorem name_of {ds:List DaD} (hS:Self ds) {t:TyD} {c c':CoD} {n:List UInt8} (hc:c∈consD ds t) (hn:(n==c.name)=true) (hf:(consD ds t).find? (fun c=>c.name==n)=some c'):c'=c:=by
 have e:n=c.name:=by simpa using hn
 subst e
 have:=hS t c hc
 rw[this] at hf;cases hf;rfl
theorem fit_fields {nm:List UInt8→Bool} {ds:List DaD} (hS:Self ds) {t:TyD} {p:PaD} (h:formedD nm ds t p=true) {c:CoD} (hc:c∈consD ds t) :
  spreadD p c=fieldsD p c∧∀ f,fieldsD p c=some f→Fit nm ds c.args f:=by
 rcases formed_cases h with ⟨ho,hk,hn⟩|⟨ho,hk3,hk,c',hf,hl,hF⟩
 ·rw[fields_open ho]
  simp only[spreadD,hk,cond_true];exact ⟨trivial,fun f hf=>by cases hf;exact fit_wilds nm ds c.args⟩
 ·simp only[spreadD,fieldsD,hk,ho,cond_false,Bool.false_eq_true,if_false]
  cases hn:(p.name==c.name) with
  |false=>simp
  |true =>
   have e:=name_of hS hc hn hf;subst e
   have:(((p.args.length:Nat):Int)==((c'.args.length:Nat):Int))=true:=by rw[hl];simp
   simp only[cond_true,Bool.true_and,this,if_true];exact ⟨trivial,fun f hf=>by cases hf;exact hF⟩
theorem formed_args {nm:List UInt8→Bool} {ds:List DaD} (hd:DsB ds) {t:TyD} (ht:TyB t) {p:PaD} (h:formedD nm ds t p=true):p.args.length≤16:=by
 rcases formed_cases h with ⟨_,_,hn⟩|⟨_,_,_,c,hf,hl,_⟩
 ·rw[hn];simp
 ·have:=(cons_B hd ht c (List.mem_of_find?_eq_some hf)).1
  omega
theorem under_same {nm:List UInt8→Bool} {ds:List DaD} (hS:Self ds) {t:TyD} {c:CoD} (hc:c∈consD ds t):∀ rows:List Row,(∀ r∈rows,formedD nm ds t r.1=true)→underS c rows=under c rows
 |[],_=>rfl
 |r::rs,h=>by
  simp only[underS,under,(fit_fields hS (h r (by simp)) hc).1,under_same hS hc rs fun x hx=>h x (by simp [hx])];cases fieldsD r.1 c <;> rfl
theorem tst_true:∀ rs:List Row,tstD true rs=true
 |[]=>rfl
 |r::rs=>by simp only[tstD,Bool.true_or];exact tst_true rs
theorem tst_mem {r:Row} (h:(r.1.kind != 3)=false):∀ {rs:List Row} {b:Bool},r∈rs→tstD b rs=true
 |x::rs,b,hr=>by
  simp only[tstD];rcases List.mem_cons.1 hr with e|hr
  ·subst e;rw[h];simp only[Bool.not_false,Bool.or_true];exact tst_true rs
  ·exact tst_mem h hr
theorem tst_cases:∀ (rs:List Row) (b:Bool),tstD b rs=true→b=true∨∃ r∈rs,(r.1.kind != 3)=false
 |[],b,h=>.inl h
 |x::rs,b,h=>by
  simp only[tstD] at h;rcases tst_cases rs _ h with h|⟨r,hr,h⟩
  ·simp only[Bool.or_eq_true,Bool.not_eq_true'] at h
   rcases h with h|h
   ·exact .inl h
   ·exact .inr ⟨x,by simp,h⟩
  ·exact .inr ⟨r,by simp [hr],h⟩
theorem under_miss (c:CoD):∀ rows:List Row,(∀ r∈rows,r.1.open=true∨(r.1.open=false∧(r.1.name==c.name)=false))→under c rows=(restD rows).map (wilds c.args.length++·)
 |[],_=>rfl
 |r::rs,h=>by
  have ih:=under_miss c rs fun x hx=>h x (by simp [hx])
  rcases h r (by simp) with ho|⟨ho,hn⟩
  ·simp only[under,restD,fields_open ho,ho,cond_true,List.map_cons,ih]
  ·have:fieldsD r.1 c=none:=by simp only[fieldsD,ho,hn,Bool.false_and,Bool.false_eq_true,if_false]
   simp only[under,restD,this,ho,cond_false,ih]
theorem rest_all:∀ rows:List Row,(∀ r∈rows,r.1.open=true)→restD rows=rows.map (·.2)
 |[],_=>rfl
 |r::rs,h=>by
  simp only[restD,h r (by simp),cond_true,List.map_cons,rest_all rs fun x hx=>h x (by simp [hx])]
theorem rowsL_inj:∀ {a b:List Row},rowsL a=rowsL b→a=b
 |[],[],_=>rfl
 |[],_::_,h=>by simp [rowsL] at h
 |_::_,[],h=>by simp [rowsL] at h
 |(p,l)::a,(q,m)::b,h=>by
  rw[rowsL_cons,rowsL_cons] at h;simp only[List.cons.injEq] at h;obtain ⟨⟨h1,h2⟩,h3⟩:=h;subst h1;subst h2;rw[rowsL_inj h3]
theorem heads_wild (k:Nat):∀ R:List (List PaD),headsD [] (R.map fun r=>((wildD,wilds k++r):Row))=[]
 |[]=>rfl
 |r::R=>by
  simp only[List.map_cons,headsD];exact heads_wild k R
theorem rest_wild (k:Nat):∀ R:List (List PaD),restD (R.map fun r=>((wildD,wilds k++r):Row))=R.map (wilds k++·)
 |[]=>rfl
 |r::R=>by
  simp only[List.map_cons,restD,wildD_open,cond_true,rest_wild k R]
theorem pad_none {ds:List DaD}:∀ (bs ts:List TyD) (q:List PaD) (R:List (List PaD)),Srch ds (bs++ts) (wilds bs.length++q) (R.map (wilds bs.length++·)) none→Srch ds ts q R none
 |[],ts,q,R,h=>by
  have e:R.map (wilds ([]:List TyD).length++·)=R:=by
   have:(fun r:List PaD=>wilds ([]:List TyD).length++r)=id:=by funext r;rfl
   rw[this,List.map_id]
  rw[e] at h;exact h
 |a::bs,ts,q,R,h=>by
  apply pad_none bs ts q R;have eq1:wilds (a::bs).length++q=wildD::(wilds bs.length++q):=rfl
  have eR:R.map (wilds (a::bs).length++·)=rowsL (R.map fun r=>((wildD,wilds bs.length++r):Row)):=by
   rw[rowsL,List.map_map];rfl
  rw[eq1,eR] at h;have hw:(wildD.kind==3)=false:=rfl;generalize hx:(none:Option (List PaD))=x at h;generalize hR:rowsL (R.map fun r=>((wildD,wilds bs.length++r):Row))=R' at h;rw[List.cons_append] at h;cases h with
  |free=>cases hx
  |conN _ h2=>rw[hw] at h2;cases h2
  |con _ h2=>rw[hw] at h2;cases h2
  |@all _ _ _ _ r rs X hb hk hm =>
   have e:=rowsL_inj hR;rw[←e,heads_wild] at hm;obtain ⟨h1,h2⟩:=miss_false.1 hm;cases hc:consD ds a with
   |nil=>rw[hc] at h1;cases h1
   |cons c cs=>have:=h2 c (by rw[hc];simp);cases this
  |@rest _ _ _ _ r rs x' hb hC hk hm hl hs =>
   have e:=rowsL_inj hR;rw[←e,rest_wild] at hs;cases x' with
   |none=>exact hs
   |some _=>cases hx
theorem inv_under {ds:List DaD} (hd:DsB ds) {t:TyD} {ts:List TyD} {q0:PaD} {qt:List PaD} {rs:List Row} {M:Nat} (hI:Inv (t::ts) (q0::qt) (rowsL rs) M) {c:CoD} (hc:c∈consD ds t) {f:List PaD} (hf:fieldsD q0 c=some f) (hM:PaD.nds (f++qt)+ndR (under c rs) < M) :
  Inv (c.args++ts) (f++qt) (under c rs) (PaD.nds (f++qt)+ndR (under c rs)):=by
 have ht:=hI.tys t (by simp);obtain ⟨h1,h2⟩:=cons_B hd ht c hc;have hfl:=fields_len hf;have hl:=hI.len;have hb:=hI.bnd;have hn:=hI.num;rw[rowsL_len] at hn;simp only[List.length_cons] at hl hb;refine ⟨fun a ha=>?_,by simp [hfl];omega,fun y hy=>?_,?_,?_⟩
 ·rcases List.mem_append.1 ha with ha|ha
  ·exact h2 a ha
  ·exact hI.tys a (by simp [ha])
 ·obtain ⟨p,l,g,g1,g2,rfl⟩:=of_under hy
  have:=hI.row (p::l) (mem_rowsL.2 g1)
  simp only[List.length_cons] at this;simp [fields_len g2,hfl];omega
 ·simp only[List.length_append];omega
 ·have:=under_len c rs
  omega
theorem inv_rest {t:TyD} {ts:List TyD} {q0:PaD} {qt:List PaD} {rs:List Row} {M M':Nat} (hI:Inv (t::ts) (q0::qt) (rowsL rs) M) (hM:M'≤M):Inv ts qt (restD rs) M':=by
 have hl:=hI.len;have hb:=hI.bnd;have hn:=hI.num;rw[rowsL_len] at hn;simp only[List.length_cons] at hl hb;refine ⟨fun a ha=>hI.tys a (by simp [ha]),by omega,fun y hy=>?_,by omega,?_⟩
 ·obtain ⟨p,g1,_⟩:=of_rest hy
  have:=hI.row (p::y) (mem_rowsL.2 g1)
  simp only[List.length_cons] at this;omega
 ·have:=rest_len rs;omega
theorem some_any {α β:Type} (f:α→Option β) (g:α→Bool):∀ l:List α,(∀ a∈l,(f a).isSome=g a)→(l.findSome? f).isSome=l.any g
 |[],_=>rfl
 |a::l,h=>by
  have h1:=h a (by simp);have ih:=some_any f g l fun x hx=>h x (by simp [hx])
  rw[List.findSome?_cons,List.any_cons,←h1,←ih];cases f a with
  |none=>rfl
  |some b=>rfl
theorem srch_usf {nm:List UInt8→Bool} {ds:List DaD} (hd:DsB ds) (hS:Self ds):∀ (m n:Nat) (ts:List TyD) (q:List PaD) (rows:List (List PaD)),PaD.nds q+ndR rows < m→q.length < n→Inv ts q rows (PaD.nds q+ndR rows) →
  Fit nm ds ts q→(∀ r∈rows,Fit nm ds ts r)→∀ x,Srch ds ts q rows x→Usf ds ts rows q x.isSome:=by
 intro m;induction m with
 |zero=>intro n ts q rows h;omega
 |succ m ihm =>
  intro n;induction n with
  |zero=>intro ts q rows _ h;omega
  |succ n ihn =>
   intro ts q rows hm hn hI hq hr x hs
   have key:∀ (t:TyD) (ts:List TyD) (q0:PaD) (qt:List PaD) (rs:List Row),ts.length+1=qt.length+1→PaD.nds (q0::qt)+ndR (rowsL rs) < m+1→Inv (t::ts) (q0::qt) (rowsL rs) (PaD.nds (q0::qt)+ndR (rowsL rs))→Fit nm ds (t::ts) (q0::qt)→(∀ r∈rowsL rs,Fit nm ds (t::ts) r) →
     (∀ c∈consD ds t,BndU c ts (q0,qt) rs)∧(∀ c∈consD ds t,underS c rs=under c rs) ∧
     (∀ c∈consD ds t,∀ f,fieldsD q0 c=some f→PaD.nds (f++qt)+ndR (under c rs) < PaD.nds (q0::qt)+ndR (rowsL rs)→∀ x,Srch ds (c.args++ts) (f++qt) (under c rs) x→Usf ds (c.args++ts) (underS c rs) (f++qt) x.isSome):=by
    intro t ts q0 qt rs _ hm hI hq hr;have hrow:∀ r∈rs,formedD nm ds t r.1=true∧Fit nm ds ts r.2:=fun r h=>hr (r.1::r.2) (mem_rowsL.2 h)
    have hu:∀ c∈consD ds t,underS c rs=under c rs:=fun c hc=>under_same hS hc rs fun r h=>(hrow r h).1
    have ht:=hI.tys t (by simp);have hl:=hI.len;have hb:=hI.bnd;simp only[List.length_cons] at hl hb;refine ⟨fun c hc=>⟨?_,fun y hy=>?_⟩,hu,fun c hc f hf hlt x hx=>?_⟩
    ·have:=(cons_B hd ht c hc).1
     omega
    ·have h1:=(cons_B hd ht c hc).1
     have:formedD nm ds t y.1=true∧y.2.length=qt.length:=by
      rcases List.mem_cons.1 hy with e|hy
      ·subst e;exact ⟨hq.1,rfl⟩
      ·have:=hI.row (y.1::y.2) (mem_rowsL.2 hy)
       simp only[List.length_cons] at this;exact ⟨(hrow y hy).1,by omega⟩
     have h2:=formed_args hd ht this.1;rw[this.2];exact ⟨by omega,by omega⟩
    ·rw[hu c hc]
     refine ihm _ _ _ _ (by omega) (Nat.lt_succ_self _) (inv_under hd hI hc hf hlt) (((fit_fields hS hq.1 hc).2 f hf).app hq.2) (fun y hy=>?_) x hx;obtain ⟨p,l,g,g1,g2,rfl⟩:=of_under hy;exact ((fit_fields hS (hrow _ g1).1 hc).2 g g2).app (hrow _ g1).2
   cases hs with
   |@done ts rows =>
    have:=hI.len
    cases ts with
    |cons _ _=>cases this
    |nil =>
     cases rows with
     |nil=>exact .free
     |cons r rs =>
      have e:(((r::rs).length:Nat):Int)==0↔False:=by simp;omega
      rw[if_neg (fun h=>e.1 h)];exact .done
   |free=>exact .free
   |conN hb hk hfd =>
    rcases formed_cases hq.1 with ⟨ho,_⟩|⟨_,_,_,c,hf,_⟩
    ·rw[open_kind hk] at ho;cases ho
    ·rw[hfd] at hf;cases hf
   |@con t ts q0 qt r rs c x0 hb hk hfd hB hsr =>
    obtain ⟨k1,k2,k3⟩:=key t ts q0 qt (r::rs) (by simpa using hI.len) hm hI hq hr;have hc:=List.mem_of_find?_eq_some hfd;have hn:(c.name==q0.name)=true:=by simpa using List.find?_some hfd
    have hn':q0.name=c.name:=by simpa using (Eq.symm (by simpa using hn:c.name=q0.name))
    rcases formed_cases hq.1 with ⟨ho,_⟩|⟨ho,_,hk3,c',hf',hl,hF⟩
    ·rw[open_kind hk] at ho;cases ho
    rw[hfd] at hf';cases hf'
    have hff:fieldsD q0 c=some q0.args:=by
     simp only[fieldsD,ho,hn',hl,beq_self_eq_true,Bool.and_self,Bool.false_eq_true,if_false,if_true]
    have hlt:PaD.nds (q0.args++qt)+ndR (under c (r::rs)) < PaD.nds (q0::qt)+ndR (rowsL (r::rs)):=by
     have h1:=(fields_nd hff).2 ho;have h2:=ndR_under c (r::rs);simp only[nds_append,PaD.nds];omega
    have hU:=k3 c hc _ hff hlt _ (hsr _ hff)
    have h1:Usf ds (t::ts) (rowsL (r::rs)) (q0::qt) ((consD ds t).any fun c=>(spreadD q0 c).isSome&&x0.isSome):=by
     refine Usf.con (X:=fun _=>x0.isSome) ?_ ?_ k1 fun c2 hc2 f hf=>?_
     ·have:=hI.num;rw[rowsL_len] at this;omega
     ·rw[hk3];exact tst_true _
     ·have hs2:=(fit_fields hS hq.1 hc2).1
      rw[hs2] at hf
      have:(q0.name==c2.name)=true:=by
       simp only[fieldsD,ho,Bool.false_eq_true,if_false] at hf
       split at hf
       ·rename_i h;rw[Bool.and_eq_true] at h;exact h.1
       ·cases hf
      have e:=name_of hS hc2 this hfd;subst e;rw[hff] at hf;cases hf;exact hU
    have e1:((consD ds t).any fun c=>(spreadD q0 c).isSome&&x0.isSome)=(oneR (q0,qt) c x0).isSome:=by
     have e2:(oneR (q0,qt) c x0).isSome=x0.isSome:=by
      simp only[oneR,hff];cases x0 <;> rfl
     rw[e2];cases hx0:x0.isSome with
     |false=>simp
     |true =>
      rw[List.any_eq_true];exact ⟨c,hc,by rw[(fit_fields hS hq.1 hc).1,hff];rfl⟩
    rw[←e1];exact h1
   |@all t ts q0 qt r rs X hb hk hmm hB hsr =>
    obtain ⟨k1,k2,k3⟩:=key t ts q0 qt (r::rs) (by simpa using hI.len) hm hI hq hr;have hmf:=miss_false.1 hmm
    have ho:q0.open=true:=by
     rcases formed_cases hq.1 with ⟨ho,_⟩|⟨_,h3,_⟩
     ·exact ho
     ·rw[hk] at h3;cases h3
    have hlt:∀ c∈consD ds t,∀ f,fieldsD q0 c=some f→PaD.nds (f++qt)+ndR (under c (r::rs)) < PaD.nds (q0::qt)+ndR (rowsL (r::rs)):=by
     intro c hc f hf;have h1:=(fields_nd hf).1;have h2:=hmf.2 c hc;rw[mem_heads] at h2;rcases h2 with h2|⟨y,hy,h3,_⟩
     ·cases h2
     ·have h4:=ndR_under_lt c (open_kind h3) hy
      simp only[nds_append,PaD.nds];omega
    have h1:Usf ds (t::ts) (rowsL (r::rs)) (q0::qt) ((consD ds t).any fun c=>(spreadD q0 c).isSome&&(X c).isSome):=by
     refine Usf.con (X:=fun c=>(X c).isSome) ?_ ?_ k1 fun c hc f hf=>?_
     ·have:=hI.num;rw[rowsL_len] at this;omega
     ·cases hcc:consD ds t with
      |nil=>rw[hcc] at hmf;cases hmf.1
      |cons c0 cs =>
       have h2:=hmf.2 c0 (by rw[hcc];simp);rw[mem_heads] at h2;rcases h2 with h2|⟨y,hy,h3,_⟩
       ·cases h2
       ·exact tst_mem (by rw[bne,h3];rfl) hy
     ·rw[(fit_fields hS hq.1 hc).1] at hf
      exact k3 c hc f hf (hlt c hc f hf) _ (hsr c hc f hf)
    rw[some_any (fun c=>oneR (q0,qt) c (X c)) (fun c=>(spreadD q0 c).isSome&&(X c).isSome) (consD ds t) fun c hc=>?_]
    ·exact h1
    ·rw[(fit_fields hS hq.1 hc).1]
     simp only[oneR,fields_open ho];cases X c <;> rfl
   |@rest t ts q0 qt r rs x0 hb hC hk hmm hx hsr =>
    obtain ⟨k1,k2,k3⟩:=key t ts q0 qt (r::rs) (by simpa using hI.len) hm hI hq hr;have hrow:∀ y∈(r::rs:List Row),formedD nm ds t y.1=true∧Fit nm ds ts y.2:=fun y h=>hr (y.1::y.2) (mem_rowsL.2 h)
    have ho:q0.open=true∧(q0.kind != 3)=true:=by
     rcases formed_cases hq.1 with ⟨ho,h3,_⟩|⟨_,h3,_⟩
     ·exact ⟨ho,h3⟩
     ·rw[hk] at h3;cases h3
    have hnum:=hI.num;rw[rowsL_len] at hnum;have eX:(x0.map fun l=>beginD (consD ds t) (headsD [] (r::rs))::l).isSome=x0.isSome:=by cases x0 <;> rfl
    rw[eX];cases htst:tstD (!(q0.kind != 3)) (r::rs) with
    |false =>
     have hall:∀ y∈(r::rs:List Row),y.1.open=true:=fun y hy=>by
      rcases formed_cases (hrow y hy).1 with ⟨h,_⟩|⟨_,_,h3,_⟩
      ·exact h
      ·rw[tst_mem h3 hy] at htst;cases htst
     have e:=rest_all _ hall;have hR:=ndR_rest (r::rs);refine .skip (by omega) htst ?_;rw[←e];refine ihn ts qt (restD (r::rs)) (by simp only[PaD.nds] at hm;omega) (by simp at hn;omega) (inv_rest hI (by simp only[PaD.nds];omega)) hq.2 (fun y hy=>?_) _ hsr;obtain ⟨p,g1,_⟩:=of_rest hy;exact (hrow _ g1).2
    |true =>
     have hcon:∃ y∈(r::rs:List Row),(y.1.kind != 3)=false:=by
      rcases tst_cases _ _ htst with h|h
      ·rw[ho.2] at h;cases h
      ·exact h
     obtain ⟨y0,hy0,hy3⟩:=hcon;have hy3':y0.1.open=false:=open_kind (by rw[bne,Bool.not_eq_false'] at hy3;exact hy3)
     have hlt:∀ c:CoD,PaD.nds (wilds c.args.length++qt)+ndR (under c (r::rs)) < PaD.nds (q0::qt)+ndR (rowsL (r::rs)):=by
      intro c;have h4:=ndR_under_lt c hy3' hy0;simp only[nds_append,PaD.nds,nds_wilds];omega
     have hst:∀ c:CoD,∃ x,c∈consD ds t→Srch ds (c.args++ts) (wilds c.args.length++qt) (under c (r::rs)) x:=by
      intro c;by_cases hc:c∈consD ds t
      ·obtain ⟨x,hx,_⟩:=total hd _ _ _ _ _ (Nat.lt_succ_self _) (Nat.lt_succ_self _) (inv_under hd hI hc (fields_open ho.1) (hlt c))
       exact ⟨x,fun _=>hx⟩
      ·exact ⟨none,fun h=>absurd h hc⟩
     have hX:=fun c=>Classical.choose_spec (hst c)
     have h1:Usf ds (t::ts) (rowsL (r::rs)) (q0::qt) ((consD ds t).any fun c=>(spreadD q0 c).isSome&&(Classical.choose (hst c)).isSome):=by
      refine Usf.con (X:=fun c=>(Classical.choose (hst c)).isSome) (by omega) htst k1 fun c hc f hf=>?_
      rw[(fit_fields hS hq.1 hc).1,fields_open ho.1] at hf;cases hf;exact k3 c hc _ (fields_open ho.1) (hlt c) _ (hX c hc)
     have e1:((consD ds t).any fun c=>(spreadD q0 c).isSome&&(Classical.choose (hst c)).isSome)=x0.isSome:=by
      cases x0 with
      |none =>
       rw[Option.isSome_none,List.any_eq_false];intro c hc
       have:=mono (hX c hc) c.args (wilds c.args.length) ts qt (restD (r::rs)) rfl rfl (by simp [wilds]) hsr fun y hy=>by
        obtain ⟨p,g1,g2⟩:=of_rest hy;exact ⟨wilds c.args.length,rfl,fun p hp=>by rw[List.eq_of_mem_replicate hp];rfl,under_mem g1 (fields_open g2)⟩
       rw[this];simp
      |some l =>
       rw[Option.isSome_some,List.any_eq_true];rcases formed_cases (hrow y0 hy0).1 with ⟨h,_⟩|⟨_,_,_,c0,hc0,_⟩
       ·rw[hy3'] at h;cases h
       have hne:((((consD ds t).length:Nat):Int)==0)=false:=by
        have:=List.mem_of_find?_eq_some hc0
        cases hcc:consD ds t with
        |nil=>rw[hcc] at this;cases this
        |cons a b=>simp;omega
       have hex:∃ c∈consD ds t,c.name∉headsD [] (r::rs):=by
        apply Classical.byContradiction;intro hno
        have:missD (headsD [] (r::rs)) ((((consD ds t).length:Nat):Int)==0) (consD ds t)=false:=miss_false.2 ⟨hne,fun c hc=>Classical.byContradiction fun h=>hno ⟨c,hc,h⟩⟩
        rw[this] at hmm;cases hmm
       obtain ⟨c,hc,hcn⟩:=hex;refine ⟨c,hc,?_⟩;rw[(fit_fields hS hq.1 hc).1,fields_open ho.1];simp only[Option.isSome_some,Bool.true_and];cases hxc:Classical.choose (hst c) with
       |some _=>rfl
       |none =>
        exfalso;have hs1:=hX c hc;rw[hxc,under_miss c (r::rs) fun y hy=>?_] at hs1
        ·have hs2:=pad_none c.args ts qt (restD (r::rs)) hs1
         have:=mono hsr [] [] ts qt (restD (r::rs)) rfl rfl rfl hs2 fun z hz=>⟨[],rfl,by simp,hz⟩
         cases this
        ·rcases formed_cases (hrow y hy).1 with ⟨h,_⟩|⟨h,h3,_⟩
         ·exact .inl h
         ·refine .inr ⟨h,?_⟩
          rw[beq_eq_false_iff_ne];intro e;exact hcn (mem_heads.2 (.inr ⟨y,hy,h3,e⟩))
     rw[←e1];exact h1
theorem chkPsL_formed {nm:List UInt8→Bool} {ds:List DaD} {t:TyD}:∀ {l:List PaD},chkPsL nm ds t l=0→∀ p∈l,formedD nm ds t p=true
 |[],_,_,h=>by cases h
 |p::l,h,x,hx=>by
  simp only[chkPsL] at h
  split at h
  ·cases h
  ·split at h
   ·rename_i h2;rw[h] at h2;cases h2
   ·rename_i h2
    rcases List.mem_cons.1 hx with e|hx
    ·subst e
     cases hf:formedD nm ds t x with
     |true=>rfl
     |false =>
      exfalso;apply h2;simp only[validD,hf]
      split <;> rfl
    ·exact chkPsL_formed h x hx
theorem chkPs_formed {vr cn nm:List UInt8→Bool} {ds:List DaD} {t:TyD} {l:List PaD} (h:chkPs vr cn nm ds t l=0):∀ p∈l,formedD nm ds t p=true:=by
 unfold chkPs at h
 split at h
 ·cases h
 ·split at h
  ·cases h
  ·split at h
   ·cases h
   ·exact chkPsL_formed h
theorem usf_of {vr cn nm:List UInt8→Bool} {ds:List DaD} {t:TyD} {l l':List PaD} {y:PaD} (hl:PaD.sizes l+10 < mid) (h:chkPs vr cn nm ds t l=0) (hsub:∀ p∈l',p∈l) (hlen:l'.length≤l.length) (hnd:PaD.nds l'≤PaD.nds l) (hy:y=wildD∨y∈l) {x:Option (List PaD)} (hs:Srch ds [t] [y] (singleD l') x):Usf ds [t] (singleD l') [y] x.isSome:=by
 obtain ⟨hd,ht⟩:=chk_B (chkPs_T h);have hF:=chkPs_formed h
 have hyF:formedD nm ds t y=true∧y.nd≤PaD.nds l:=by
  rcases hy with rfl|hy
  ·exact ⟨formed_wild nm ds t,by rw[nd_open wildD_open];omega⟩
  ·exact ⟨hF y hy,nd_mem hy⟩
 have h1:=nds_sizes l;have h2:=ndR_single l';have h3:=PaD.sizes_len l;refine srch_usf hd (self_of (chkPs_T h)) _ _ [t] [y] (singleD l') (Nat.lt_succ_self _) (Nat.lt_succ_self _) ⟨fun a ha=>by simp at ha;subst ha;exact ht,rfl,single_row,?_,?_⟩ ⟨hyF.1,trivial⟩ (fun r hr=>?_) x hs
 ·simp only[PaD.nds,List.length_cons,List.length_nil,big];simp only[mid] at hl;omega
 ·simp only[singleD,List.length_map,big];simp only[mid] at hl;omega
 ·simp only[singleD,List.mem_map] at hr
  obtain ⟨p,hp,rfl⟩:=hr;exact ⟨hF p (hsub p hp),trivial⟩
end Go.Proofs.YtkmnkiekmlcfdaaGreatDoor
end
section
namespace Go.Proofs.YtkmnkiekmlcfdaaGreatDoor
open Go.AM
set_option maxRecDepth 100000
theorem fit_mem {nm:List UInt8→Bool} {ds:List DaD}:∀ {ts:List TyD} {l:List PaD},Fit nm ds ts l→∀ a∈l,∃ t,formedD nm ds t a=true
 |[],[],_,a,h=>by cases h
 |[],_::_,h,_,_=>h.elim
 |_::_,[],h,_,_=>h.elim
 |t::ts,p::l,h,a,ha=>by
  rcases List.mem_cons.1 ha with e|ha
  ·subst e;exact ⟨t,h.1⟩
  ·exact fit_mem h.2 a ha
theorem allZ_same {m m':PaD→PaD→Bool}:∀ (us vs:List PaD),(∀ a∈us,∀ b∈vs,m a b=m' a b)→allZ m us vs=allZ m' us vs
 |[],[],_=>rfl
 |[],_::_,_=>rfl
 |_::_,[],_=>rfl
 |a::us,b::vs,h=>by
  simp only[allZ];rw[h a (by simp) b (by simp),allZ_same us vs fun x hx y hy=>h x (by simp [hx]) y (by simp [hy])]
theorem meet_same {nm:List UInt8→Bool} {ds:List DaD}:∀ (n:Nat) (p q:PaD) (t u:TyD),formedD nm ds t p=true→formedD nm ds u q=true→meetG PaD.open n p q=meetG opR n p q
 |0,_,_,_,_,_,_=>rfl
 |n+1,p,q,t,u,hp,hq=>by
  simp only[meetG,opR];rcases formed_cases hp with ⟨o1,k1,_⟩|⟨o1,_,k1,c1,_,_,f1⟩
  ·rw[o1,k1];rfl
  ·rcases formed_cases hq with ⟨o2,k2,_⟩|⟨o2,_,k2,c2,_,_,f2⟩
   ·rw[o1,k1,o2,k2];rfl
   ·rw[o1,k1,o2,k2,allZ_same p.args q.args fun a ha b hb=>by
     obtain ⟨t',h1⟩:=fit_mem f1 a ha;obtain ⟨u',h2⟩:=fit_mem f2 b hb;exact meet_same n a b t' u' h1 h2]
theorem any_same {α:Type} {f g:α→Bool}:∀ l:List α,(∀ a∈l,f a=g a)→l.any f=l.any g
 |[],_=>rfl
 |a::l,h=>by rw[List.any_cons,List.any_cons,h a (by simp),any_same l fun x hx=>h x (by simp [hx])]
theorem wit_same (ds:List DaD) (t:TyD) (l:List PaD) (p:PaD) (n:Nat) :
  (bif (chkPs tvarB (wordB 65 90) nameB ds t l != 0) then chkPs tvarB (wordB 65 90) nameB ds t l else bif (validD nameB ds t p != 0) then validD nameB ds t p else bif (l.any fun x=>meetG PaD.open n x p)||!(slotsD 100 p []).isEmpty then 52 else 0) =
   (bif (chkPsR ds t l != 0) then chkPsR ds t l else bif (chkPR ds t p != 0) then chkPR ds t p else bif !(varsR p).isEmpty||(l.any fun x=>meetG opR n x p) then (52:Int) else 0):=by
 cases h1:(chkPs tvarB (wordB 65 90) nameB ds t l != 0) with
 |true =>
  rw[chkPs_same] at h1 ⊢;rw[h1];rfl
 |false =>
  have hF:=chkPs_formed (show chkPs tvarB (wordB 65 90) nameB ds t l=0 by simpa using h1);rw[chkPs_same] at h1;rw[h1];simp only[cond_false];cases h2:(validD nameB ds t p != 0) with
  |true =>
   rw[valid_same] at h2 ⊢;rw[h2];rfl
  |false =>
   have hv:validD nameB ds t p=0:=by simpa using h2
   rw[valid_same] at h2;rw[h2];simp only[cond_false];unfold validD at hv;cases hd:deepD 100 p with
   |true=>rw[hd] at hv;cases hv
   |false =>
    cases hf:formedD nameB ds t p with
    |false=>rw[hd,hf] at hv;cases hv
    |true =>
     have hs:=slots_vars 100 p t hd hf [];rw[any_same l fun x hx=>meet_same n x p t t (hF x hx) hf,←hs,List.isEmpty_map,Bool.or_comm]
end Go.Proofs.YtkmnkiekmlcfdaaGreatDoor
end
end
section
namespace Go.Proofs.YtkmnkiekmlcfdaaGreatDoor
open Go.AM
set_option maxRecDepth 100000
set_option maxHeartbeats 4000000
variable {kd:List UInt8→Int}
theorem loop3 (a2 a3:Slot) (us:List Nat) (hL:us.length < big) (T:Sto) (ys:List Nat):∀ (pre:List Nat),us=pre++ys →
  ∃ s0 s1 s4 s6 s7 s8 s9 s10 s11 s12 s13 s14 s15 s76 s80 s91,LP kd 3 (loopOf Tryz.f3 0) ⟨[.dead,.dead,a2,a3,.dead,.dead,.dead,.dead,.dead,.val (.slice (us.map intE)),.dead,.val (.slice (us.map intE)),.dead,.val (.int .i64 (pre.length:Nat)),.dead,.dead,.dead,.dead],T⟩ =
   some (.exit 0,⟨[s0,s1,a2,a3,s4,s6,s7,s8,s9,s10,s11,s12,s13,s14,s15,s76,s80,s91],T⟩):=by
 induction ys with
 |nil =>
  intro pre h1;rw[List.append_nil] at h1;subst h1;have hlt:=geI us;iterate 16 apply Exists.intro
  refine tJ rfl ?_;repeat first|with_reducible constructor|(with_reducible apply tG);kernel_rfl;intro _ _;(repeat apply tOp;intro _;simp only[List.length_map,go_sem];rfl);rfl;simp only[go_sem];rfl|(with_reducible apply t0);rfl;trivial
  exact tlX;all_goals exact .dead
 |cons y ys ih =>
  intro pre h1;have hget:=getI intE pre ys y;have hlt:=ltI pre ys y;have h0:=zI pre.length;have hw:=wL pre ys y (by rw[←h1];exact hL);rw[←h1] at hget hlt;rw[show intE y=.int .i64 (y:Nat) from rfl] at hget;have hb:(((y:Nat):Int) != ((y:Nat):Int))=false:=by simp
  obtain ⟨s0,s1,s4,s6,s7,s8,s9,s10,s11,s12,s13,s14,s15,s76,s80,s91,ih⟩:=ih (pre++[y]) (by rw[h1];simp);refine ⟨s0,s1,s4,s6,s7,s8,s9,s10,s11,s12,s13,s14,s15,s76,s80,s91,?_⟩;refine tJ rfl ?_;repeat first|with_reducible constructor|(with_reducible apply tG);kernel_rfl;intro _ _;(repeat apply tOp;intro _;simp only[List.length_map,hget,h0,hb,hw,go_sem];rfl);rfl;simp only[go_sem];rfl|(with_reducible apply t1);rfl;trivial|(with_reducible apply t0);rfl;trivial
  exact ih
theorem c3 {ds:List DaD} (h:DsOk ds) (hct:conTot ds+3 < big) (t:TyD) (ht:t.size < big) (p:PaD) (hp:p.size+1 < big) (l:List PaD) (hl:PaD.sizes l+10 < mid) (hk:isK kd 4=tvarB∧isK kd 3=wordB 65 90∧isK kd 2=nameB) (T:Sto) (hlo:T.lo≤T.objs.length)
  (h13:CF kd (.fn 13) [] T=some (.ret (.val (.bool true)),T)):CF kd (.fn 3) [.val (askE ds t l),.val p.enc] T=some (.ret (.val (.bool true)),T):=by
 have hl':PaD.sizes l+1 < big:=by simp only[mid] at hl;simp only[big];omega
 have hll:=PaD.sizes_len l;have hsz:∀ x∈l,x.size < PaD.sizes l+1:=fun x hx=>by have:=PaD.sizes_mem hx;omega
 have h14:=c14 (kd:=kd) h t ht l hl' p (by omega) hl' hsz T hlo;have h15:=c15 (kd:=kd) h hct t ht l hl' p hp hl' hsz T;rw[hk.1,hk.2.1,hk.2.2,wit_same] at h14;generalize (bif (chkPsR ds t l != 0) then chkPsR ds t l else bif (chkPR ds t p != 0) then chkPR ds t p else bif !(varsR p).isEmpty||(l.any fun x=>meetG opR (PaD.sizes l+1) x p) then (52:Int) else 0)=wt at h14 h15
 obtain ⟨w,x,e,us,h9,h10,h11,h12,hus⟩:∃ (w:PaD) (x:Bool) (e:Int) (us:List Nat),
   CF kd (.fn 9) [.val (.slice (ds.map DaD.enc)),.val t.enc,.val (.slice (l.map PaD.enc))] T=some (.ret (.tup [w.enc,.bool x,.int .i64 e]),T) ∧
   CF kd (.fn 10) [.val (.slice (ds.map DaD.enc)),.val t.enc,.val (.slice (l.map PaD.enc))] T=some (.ret (.tup [.bool x,.int .i64 e]),T) ∧
   CF kd (.fn 11) [.val (.slice (ds.map DaD.enc)),.val t.enc,.val (.slice (l.map PaD.enc))] T=some (.ret (.tup [.slice (us.map intE),.int .i64 e]),T) ∧
   CF kd (.fn 12) [.val (.slice (ds.map DaD.enc)),.val t.enc,.val (.slice (l.map PaD.enc))] T=some (.ret (.tup [.slice (us.map intE),.int .i64 e]),T)∧us.length≤l.length:=by
  have hs:=chkPs_same ds t l;rw[←hk.1,←hk.2.1,←hk.2.2] at hs;by_cases he:chkPsR ds t l=0
  ·have he':=hs.trans he
   obtain ⟨r,hr,hw⟩:=srchC hl he';obtain ⟨R,hR⟩:=srchU hl he'
   refine ⟨_,_,_,_,c9o h t ht l hl' he' hr hw T hlo,c10o h hct t ht l hl' he (usf_of hl he' (fun _ h=>h) (Nat.le_refl _) (Nat.le_refl _) (.inl rfl) hr) T,c11o h t ht l hl' he' R hR T hlo,
    c12o h hct t ht l hl' he R (fun i y hy=>usf_of hl he' (fun _ h=>List.mem_of_mem_take h) (by simp;omega) (nds_take l i) (.inr (List.mem_of_getElem? hy)) (hR i y hy)) T,usel_len l 0⟩
  ·have he1:(chkPsR ds t l != 0)=true:=by simpa using he
   have he':(chkPs (isK kd 4) (isK kd 3) (isK kd 2) ds t l != 0)=true:=by rw[hs];exact he1
   have h9:=c9e (kd:=kd) h t ht l hl' he' T hlo;have h11:=c11e (kd:=kd) h t ht l hl' he' T hlo;rw[hs] at h9 h11;exact ⟨_,_,_,[],h9,c10e h hct t ht l hl' he1 T,h11,c12e h hct t ht l hl' he1 T,Nat.zero_le _⟩
 obtain ⟨s0,s1,s4,s6,s7,s8,s9,s10,s11,s12,s13,s14,s15,s76,s80,s91,hlp⟩:=loop3 (kd:=kd) (.box [.val (.slice (ds.map DaD.enc)),.val (.str t.name),.val (.slice (t.args.map TyD.enc)),.val (.slice (l.map PaD.enc))]) (.box [.val (.int .i64 p.kind),.val (.str p.name),.val (.slice (p.args.map PaD.enc))]) us (by simp only[big] at hl' ⊢;omega) T us [] rfl;simp only[List.length_nil] at hlp;have e0:((0:Nat):Int)=0:=rfl;rw[e0] at hlp;have hb1:∀ x:Int,(x != x)=false:=fun x=>by simp
 have hb2:∀ x:Int,(x==x)=true:=fun x=>by simp
 unfold askE;rw[w.enc_eq] at h9;rw[p.enc_eq] at h14 h15 ⊢;rw[t.enc_eq] at h9 h10 h11 h12 h14 h15;apply tA;rfl;rfl;exact Tryz.func3;rfl;rfl;simp only[go_sem];rfl;refine tQ ?_;repeat first|with_reducible constructor|(with_reducible apply tG);kernel_rfl;intro _ _;(repeat apply tOp;intro _;simp only[h9,h10,h11,h12,hb1,beq_self_eq_true,List.length_map,h13,h14,h15,hb2,go_sem];rfl);rfl;simp only[go_sem];rfl|(with_reducible apply tM);assumption|(with_reducible apply t0);rfl;trivial
 exact fin0 rfl
end Go.Proofs.YtkmnkiekmlcfdaaGreatDoor
end
