import Derived.Test.YtdkkaldimefljaaGreatDoorA05
import Derived.RangeFuncIn
import Derived.RangeFuncRecord
set_option linter.all false
section
namespace Go.AM
variable {P:Program} {ans:FuncId→Ann} {an:Ann} {w:World} {B0:Nat} {Ψ:HT} {ρ:List Nat} {ow:Own} {tmps:Array Value} {R:Type} {r:R}
variable {tm:List Slot} {rs:RS} {kp:AVal→RS→Option R} {ds:List Deferred} {drawn:Bool} {cf:aO}
def iL (P:Program) (ans:FuncId→Ann) (an:Ann) (drawn:Bool) (cf:aO) (tm:List Slot) (rid:Nat) (ops:Array Oper) (kp:AVal→RS→Option R) (kn:RS→Option R):List Nat→RS→Option R
 |[],rs=>kn rs
 |i::l,rs=>match ops[i]? with
  |some o=>iK P ans an drawn cf tm rid ops kp o i rs fun rs'=>iL P ans an drawn cf tm rid ops kp kn l rs'
  |none=>none
theorem uc {rid:Nat} {ops:Array Oper} {kn:RS→Option R}:∀ (n i:Nat) (rs:RS),i+n=ops.size→nC P ans an drawn cf tm rid ops kp kn (ops.toList.drop i) i rs=iL P ans an drawn cf tm rid ops kp kn (List.range' i n) rs
 |0,i,rs,h=>by
  rw[List.drop_of_length_le (by simp;omega)];rfl
 |n+1,i,rs,h=>by
  have hi:i < ops.size:=by omega
  rw[List.drop_eq_getElem_cons (by simpa using hi),List.range'_succ];simp only[nC,iL,Array.getElem_toList,Array.getElem?_eq_getElem hi];congr 1;funext rs';exact uc n (i+1) rs' (by omega)
theorem n9 {rid:Nat} {ops:Array Oper} {kn:RS→Option R} (rs:RS):nC P ans an drawn cf tm rid ops kp kn ops.toList 0 rs=iL P ans an drawn cf tm rid ops kp kn (List.range ops.size) rs:=by
 have:=uc (P:=P) (ans:=ans) (an:=an) (drawn:=drawn) (cf:=cf) (tm:=tm) (rid:=rid) (ops:=ops) (kp:=kp) (kn:=kn) ops.size 0 rs (by omega)
 rw[List.drop_zero] at this;rw[this,List.range_eq_range']
def noRef (tm:List Slot):Prop:=∀ s∈tm,∀ u o,s≠.ref u o
theorem xY:∀ {sc:List (Nat×Slot)} {t:Nat} {s:Slot},bZ sc t=some s→∃ p∈sc,p.1=t
 |[],t,s,h=>by simp [bZ] at h
 |(k,x)::sc,t,s,h=>by
  simp only[bZ] at h;cases hk:Nat.beq k t with
  |true=>exact ⟨(k,x),by simp,Nat.eq_of_beq_eq_true hk⟩
  |false =>
   rw[hk] at h;obtain ⟨p,hp,he⟩:=xY (show bZ sc t=some s from h);exact ⟨p,by simp [hp],he⟩
theorem m6:∀ {ks:List Nat} {tm:List Slot} {t:Nat},tlook ks tm t=.dead∨tlook ks tm t∈tm
 |[],tm,t=>.inl (by cases tm <;> rfl)
 |k::ks,[],t=>.inl rfl
 |k::ks,s::ss,t=>by
  simp only[tlook];cases hk:Nat.beq k t with
  |true=>exact .inr (by simp)
  |false=>rcases m6 (ks:=ks) (tm:=ss) (t:=t) with h|h
          ·exact .inl h
          ·exact .inr (by simp only[cond_false];exact List.mem_cons_of_mem _ h)
theorem fm (hn:noRef tm) {t d o:Nat} (h:sl an tm rs t=.ref d o):∃ p∈rs.sc,bZ rs.sc p.1=some (.ref d o):=by
 unfold sl RS.look at h
 split at h
 ·rename_i s hs
  subst h;obtain ⟨p,hp,he⟩:=xY hs;exact ⟨p,hp,by rw[he];exact hs⟩
 ·rcases m6 (ks:=an.keep) (tm:=tm) (t:=t) with h1|h1
  ·rw[h1] at h;cases h
  ·exact absurd h (hn _ h1 d o)
theorem Rel.dst (h:Rel P ans B0 w Ψ ρ ow an (sl an tm rs) tmps rs.sto.objs) (hn:noRef tm) {o:Oper} {s:Slot} {v:Value} (hs:SRel w B0 Ψ ρ ow tmps an.nt s v)
  (href:∀ u x,s=.ref u x→∃ cs,sl an tm rs u=.box cs) (hbox:∀ cs,s=.box cs→∃ d,o.dst=some d∧an.loc.contains d=true) (hok:dT an o s rs=true) :
  ∃ ow',Rel P ans B0 w Ψ ρ ow' an (sl an tm (rs.putO o.dst s)) ((⟨tmps,ds⟩:Act).put o.dst v).tmps rs.sto.objs∧Fr w Ψ ow w Ψ ow':=by
 unfold dT at hok;cases hd:o.dst with
 |none=>exact ⟨ow,h,Fr.refl _ _ _⟩
 |some d =>
  rw[hd] at hok hbox;simp only[Bool.and_eq_true,Bool.or_eq_true,Bool.not_eq_true'] at hok;obtain ⟨⟨h1,h2⟩,h3⟩:=hok;have hdn:d < an.nt:=by simpa [Nat.blt_eq] using h1
  have hud:∀ u x,s=.ref u x→u≠d:=fun u x he hh=>by
   subst he;simp only[Bool.not_eq_true'] at h2;subst hh
   have:Nat.beq u u=true:=Nat.beq_refl u
   rw[this] at h2;cases h2
  refine ⟨ren ow false an.nt false d 0,?_,Fr.ren _ _ _⟩;rw[show sl an tm (rs.putO (some d) s)=upd (sl an tm rs) d s from dG _ _ _ _ _];refine h.write d s v hdn (fun t x he=>?_) (fun u x he=>⟨hud u x he,href u x he⟩) (fun cs he=>?_) Ψ.le_refl (aG _) h.wsat (fun t ht htn=>eS _ _ _ (by simp;omega)) ?_ (h.objs.mono Ψ.le_refl fun i _=>eS _ _ _ (by simp)) (fun b hb=>h.lt b (j5 _ hb)) (Nat.le_refl _)
  ·rcases h3 with h3|h3
   ·obtain ⟨cs,hc⟩:=h.refs t d x he
    have:=h.boxes d cs hc
    rw[h3] at this;cases this
   ·obtain ⟨p,hp,hl⟩:=fm hn he
    have:=List.all_eq_true.1 h3 p hp
    rw[hl] at this;simp only[Bool.not_eq_true'] at this;have hb:Nat.beq d d=true:=Nat.beq_refl d;rw[hb] at this;cases this
  ·obtain ⟨d',hd',hl⟩:=hbox cs he
   cases hd';exact hl
  ·refine hs.mono Ψ.le_refl (aG _) (wT _ _ _) (fun u x he=>?_)
   rw[cE _ _ _ _ (by rw[h.size];exact hdn),if_neg (hud u x he)]
def sP (P:Program) (ans:FuncId→Ann) (an:Ann) (w:World) (B0:Nat) (Ψ:HT) (ρ:List Nat) (ow:Own) (tm:List Slot) (rs:RS) (ds:List Deferred) (b:Frame) (cs:List Frame) (m:Machine) (todo:List Item) (kp:AVal→RS→Option R) (next:RS→Option R) (r:R):Prop :=
 (∃ rs' w' Ψ' ρ' ow' tmps',next rs'=some r∧Rel P ans B0 w' Ψ' ρ' ow' an (sl an tm rs') tmps' rs'.sto.objs∧Fr w Ψ ow w' Ψ' ow'∧pre ρ ρ'∧StoLe rs.sto rs'.sto∧Steps P m (lone (b.atR ⟨tmps',ds⟩ todo) cs w')) ∨
 (∃ x rs' v w' Ψ' ρ' ow' tmps' todo',kp x rs'=some r∧Rel P ans B0 w' Ψ' ρ' ow' an (sl an tm rs') tmps' rs'.sto.objs∧VRel Ψ' ρ' x v∧Fr w Ψ ow w' Ψ' ow'∧pre ρ ρ'∧StoLe rs.sto rs'.sto ∧
  Steps P m (lone { b.atR ⟨tmps',ds⟩ todo' with mode:=.panicking [{ v,recovered:=false }] } cs w'))
theorem aEF (h:Rel P ans B0 w Ψ ρ ow an (sl an tm rs) tmps rs.sto.objs) (hcf:lS P ans B0 cf) (hn:noRef tm) (hlo:rs.sto.lo≤rs.sto.objs.length) {rid:Nat} {o:Oper} {b:Frame} {ops:Array Oper} {i:Nat} {rest:List Nat} {items:List Item} {cs:List Frame} {next:RS→Option R}
  (ho:ops[i]?=some o) (e:iK P ans an drawn cf tm rid ops kp o i rs next=some r) :
  sP P ans an w B0 Ψ ρ ow tm rs ds b cs (lone (b.atR ⟨tmps,ds⟩ (.inRegion ops (i::rest)::items)) cs w) (.inRegion ops rest::items) kp next r:=by
 have go:∀ (lc:List Nat) (rs0:RS),rs0.sto=rs.sto→Rel P ans B0 w Ψ ρ ow an (sl an tm rs0) tmps rs0.sto.objs→Region.wanted o (yielded ops tmps)=true →
   aB P ans an drawn (an.pure.contains (rid,i)) lc cf tm (an.take.contains (rid,i)) o rs0 kp (fun s rs'=>aJ (dT an o s rs') (next (rs'.putO o.dst s)))=some r →
   sP P ans an w B0 Ψ ρ ow tm rs ds b cs (lone (b.atR ⟨tmps,ds⟩ (.inRegion ops (i::rest)::items)) cs w) (.inRegion ops rest::items) kp next r:=fun lc rs0 hs0 h0 hw e=>by
  rcases aAG (ds:=ds) (b:=b) (items:=items) (cs:=cs) (rest:=rest) h0 hcf (by rw[hs0];exact hlo) ho hw e with ⟨s,rs',v,w',Ψ',ρ',ow',a1,a2,a3,a4,a5,a6,a7,a8,a9⟩|⟨x,rs',v,w',Ψ',ρ',ow',a1,a2,a3,a6,a7,a8,a9⟩
  ·obtain ⟨hg,a1⟩:=aA a1
   obtain ⟨ow2,b1,b2⟩:=a2.dst (ds:=ds) hn a3 a4 a5 hg;have hsto:(rs'.putO o.dst s).sto=rs'.sto:=by cases o.dst <;> rfl
   have hact:((⟨tmps,ds⟩:Act).put o.dst v)=⟨((⟨tmps,ds⟩:Act).put o.dst v).tmps,ds⟩:=by cases o.dst <;> rfl
   refine .inl ⟨_,w',Ψ',ρ',ow2,_,a1,by rw[hsto];exact b1,a6.trans b2,a7,by rw[hsto,←hs0];exact a8,?_⟩;rw[←hact];exact a9
  ·exact .inr ⟨x,rs',v,w',Ψ',ρ',ow',tmps,_,a1,a2,a3,a6,a7,by rw[←hs0];exact a8,a9⟩
 unfold iK at e;simp only at e
 split at e
 ·rename_i hg
  exact go _ rs rfl h (by simp [Region.wanted,hg]) e
 ·rename_i j want hg
  split at e
  ·cases e
  ·rename_i d hd
   have fin:∀ (rs0:RS),rs0.sto=rs.sto→Rel P ans B0 w Ψ ρ ow an (sl an tm rs0) tmps rs0.sto.objs→yielded ops tmps j≠some want→dT an o .dead rs0=true→next (rs0.putO o.dst (.tup []))=some r →
     sP P ans an w B0 Ψ ρ ow tm rs ds b cs (lone (b.atR ⟨tmps,ds⟩ (.inRegion ops (i::rest)::items)) cs w) (.inRegion ops rest::items) kp next r:=fun rs0 hs0 hrel hy hok' e=>by
    have hwf:((ops[i]?).map (Region.wanted · (yielded ops tmps))).getD false=false:=by
     simp [ho,Region.wanted,hg,hy]
    obtain ⟨ow2,b1,b2⟩:=hrel.dst (ds:=ds) (v:=undef) (s:=.tup []) hn (.tup [] [] rfl (fun i x v h=>by simp at h)) (fun u x he=>by cases he) (fun cs he=>by cases he) hok';have hsto:(rs0.putO o.dst (.tup [])).sto=rs.sto:=by rw[←hs0];cases o.dst <;> rfl
    have hact:((⟨tmps,ds⟩:Act).put o.dst undef)=⟨((⟨tmps,ds⟩:Act).put o.dst undef).tmps,ds⟩:=by cases o.dst <;> rfl
    refine .inl ⟨_,w,Ψ,ρ,ow2,_,e,by rw[hsto,←hs0];exact b1,b2,aG _,by rw[hsto];exact StoLe.refl _,?_⟩;rw[←hact]
    have:=stepR_op_skip (P:=P) (b:=b) (a:=⟨tmps,ds⟩) (k:=items) (cs:=cs) (w:=w) (rest:=rest) hwf
    rw[ho] at this;exact .one this
   have hgk:(∃ bb lc,sl an tm rs d=.val (.bool bb)∧(match bb==want with
     |true=>aB P ans an drawn (an.pure.contains (rid,i)) lc cf tm (an.take.contains (rid,i)) o (rs.put d (.val (.bool bb))) kp fun s rs'=>aJ (dT an o s rs') (next (rs'.putO o.dst s))
     |false=>aJ (dT an o .dead rs) (next ((rs.put d (.val (.bool bb))).putO o.dst (.tup []))))=some r) ∨
     (sl an tm rs d=.tup []∧aJ (dT an o .dead rs) (next (rs.putO o.dst (.tup [])))=some r):=by
    unfold oD at e
    split at e
    ·rename_i bb hb
     exact .inl ⟨bb,_,hb,e⟩
    ·rename_i hb
     exact .inr ⟨hb,e⟩
    ·cases e
   rcases hgk with ⟨bb,lc,hs,e⟩|⟨hs,e⟩
   rotate_left
   ·obtain ⟨hok,e⟩:=aA e
    refine fin rs rfl h ?_ hok e;have hsl:=h.slots d;rw[hs] at hsl
    have hv:tmps.getD d undef=.tuple #[]:=by
     generalize tmps.getD d undef=v at hsl;cases hsl with
     |tup _ vs hl _ =>
      have:vs=[]:=List.length_eq_zero_iff.1 hl.symm
      subst this;rfl
    have:yielded ops tmps j=none:=by
     simp only[yielded,hd,Option.bind_some];rw[Array.getD_eq_getD_getElem?] at hv;cases hh:tmps[d]? with
     |none=>rfl
     |some x=>rw[hh] at hv;simp only[Option.getD_some] at hv;subst hv;rfl
    rw[this];simp
   have hv:tmps.getD d undef=.bool bb:=by
    have hsl:=h.slots d;rw[hs] at hsl;generalize tmps.getD d undef=v at hsl;cases hsl with
    |val _ _ hh=>cases hh;rfl
   have hsame:sl an tm (rs.put d (.val (.bool bb)))=sl an tm rs:=by
    rw[show sl an tm (rs.put d (.val (.bool bb)))=upd (sl an tm rs) d (.val (.bool bb)) from dG _ _ _ _ _];funext t;by_cases ht:t=d
    ·subst ht;rw[dU];exact hs.symm
    ·rw[bG _ _ ht]
   have hdb:tmps[d]?=some (.bool bb):=by
    rw[Array.getD_eq_getD_getElem?] at hv;cases hh:tmps[d]? with
    |none=>rw[hh] at hv;simp [undef] at hv
    |some x=>rw[hh] at hv;simpa using hv
   have hy:yielded ops tmps j=some bb:=by simp [yielded,hd,hdb]
   have hrel:Rel P ans B0 w Ψ ρ ow an (sl an tm (rs.put d (.val (.bool bb)))) tmps (rs.put d (.val (.bool bb))).sto.objs:=by rw[hsame];exact h
   cases hbw:bb==want with
   |true =>
    rw[hbw] at e;refine go _ (rs.put d (.val (.bool bb))) rfl hrel ?_ e
    have:bb=want:=by simpa using hbw
    simp [Region.wanted,hg,hy,this]
   |false =>
    rw[hbw] at e;simp only at e;obtain ⟨hok,e⟩:=aA e
    have hok':dT an o .dead (rs.put d (.val (.bool bb)))=true:=by
     unfold dT at hok ⊢;cases hod:o.dst with
     |none=>rfl
     |some d' =>
      rw[hod] at hok;simp only[Bool.and_eq_true,Bool.or_eq_true,Bool.not_eq_true'] at hok ⊢;refine ⟨hok.1,?_⟩;rcases hok.2 with h3|h3
      ·exact .inl h3
      ·refine .inr (List.all_eq_true.2 fun p hp=>?_)
       simp only[RS.put,List.mem_cons] at hp
       have hal:bZ (rs.put d (.val (.bool bb))).sc p.1=if d=p.1 then some (.val (.bool bb)) else bZ rs.sc p.1:=by
        simp only[RS.put,bZ];cases hb:Nat.beq d p.1 with
        |true=>rw[if_pos (Nat.eq_of_beq_eq_true hb)];rfl
        |false =>
         rw[if_neg];rfl;intro he;rw[he,show Nat.beq p.1 p.1=true from Nat.beq_refl p.1] at hb;cases hb
       rw[hal];by_cases hdp:d=p.1
       ·rw[if_pos hdp]
       ·rw[if_neg hdp]
        rcases hp with hp|hp
        ·subst hp;exact absurd rfl hdp
        ·exact List.all_eq_true.1 h3 p hp
    exact fin (rs.put d (.val (.bool bb))) rfl hrel (fun hc=>by rw[hy] at hc;rw[Option.some.inj hc] at hbw;simp at hbw) hok' e
theorem pE (hcf:lS P ans B0 cf) (hn:noRef tm) {rid:Nat} {b:Frame} {ops:Array Oper} {items:List Item} {cs:List Frame} {kn:RS→Option R}:∀ {l:List Nat} {rs:RS} {w:World} {Ψ:HT} {ρ:List Nat} {ow:Own} {tmps:Array Value},
  Rel P ans B0 w Ψ ρ ow an (sl an tm rs) tmps rs.sto.objs→rs.sto.lo≤rs.sto.objs.length→iL P ans an drawn cf tm rid ops kp kn l rs=some r →
  sP P ans an w B0 Ψ ρ ow tm rs ds b cs (lone (b.atR ⟨tmps,ds⟩ (.inRegion ops l::items)) cs w) (.inRegion ops []::items) kp kn r
 |[],rs,w,Ψ,ρ,ow,tmps,h,hlo,e=>.inl ⟨rs,w,Ψ,ρ,ow,tmps,e,h,Fr.refl _ _ _,aG _,StoLe.refl _,Steps.refl _ _⟩
 |i::l,rs,w,Ψ,ρ,ow,tmps,h,hlo,e=>by
  simp only[iL] at e
  split at e
  ·rename_i o ho
   rcases aEF (ds:=ds) (b:=b) (items:=items) (cs:=cs) (rest:=l) h hcf hn hlo ho e with ⟨rs',w',Ψ',ρ',ow',tmps',a1,a2,a3,a4,a5,a6⟩|⟨x,rs',v,w',Ψ',ρ',ow',tmps',todo',a1,a2,a3,a4,a5,a6,a7⟩
   ·rcases pE hcf hn (b:=b) (items:=items) (cs:=cs) a2 (by rw[a5.lo];exact Nat.le_trans hlo a5.len) a1 with ⟨rs2,w2,Ψ2,ρ2,ow2,tmps2,b1,b2,b3,b4,b5,b6⟩|⟨x,rs2,v,w2,Ψ2,ρ2,ow2,tmps2,todo2,b1,b2,b3,b4,b5,b6,b7⟩
    ·exact .inl ⟨rs2,w2,Ψ2,ρ2,ow2,tmps2,b1,b2,a3.trans b3,gN a4 b4,a5.trans b5,a6.trans b6⟩
    ·exact .inr ⟨x,rs2,v,w2,Ψ2,ρ2,ow2,tmps2,todo2,b1,b2,b3,a3.trans b4,gN a4 b5,a5.trans b6,a6.trans b7⟩
   ·exact .inr ⟨x,rs',v,w',Ψ',ρ',ow',tmps',todo',a1,a2,a3,a4,a5,a6,a7⟩
  ·cases e
end Go.AM
end
section
namespace Go.AM
variable {P:Program} {ans:FuncId→Ann} {an:Ann} {w:World} {B0:Nat} {Ψ:HT} {ρ:List Nat} {ow:Own} {tmps:Array Value} {R:Type} {r:R}
variable {tm:List Slot} {rs:RS} {ds:List Deferred} {cf:aO} {lp:aT}
theorem Rel.weak {E E':Nat→Slot} {objs:List AObj} (h:Rel P ans B0 w Ψ ρ ow an E tmps objs) (hE:∀ t,E' t=.dead∨(E' t=E t∧∀ u o,E' t≠.ref u o)∨∃ sz,E' t=.own sz []∧E t=.nl):Rel P ans B0 w Ψ ρ ow an E' tmps objs:=by
 refine ⟨h.size,h.wsat,fun t=>?_,fun d u o e=>?_,fun t cs e=>?_,h.objs,h.lt,h.base,fun t ht=>?_⟩
 ·rcases hE t with h1|⟨h1,_⟩|⟨sz,h1,h2⟩
  ·rw[h1];exact .dead _
  ·rw[h1];exact h.slots t
  ·have:=h.slots t
   rw[h2] at this;rw[h1];generalize tmps.getD t undef=v at this;cases this with|nl=>exact .own _ _ _ (wM _ _)
 ·rcases hE d with h1|⟨_,h2⟩|⟨sz,h1,_⟩
  ·rw[h1] at e;cases e
  ·exact absurd e (h2 u o)
  ·rw[h1] at e;cases e
 ·rcases hE t with h1|⟨h1,_⟩|⟨sz,h1,_⟩
  ·rw[h1] at e;cases e
  ·rw[h1] at e;exact h.boxes t cs e
  ·rw[h1] at e;cases e
 ·rcases hE t with h1|⟨h1,_⟩|⟨sz,h1,h2⟩
  ·exact h1
  ·rw[h1];exact h.hi t ht
  ·have:=h.hi t ht;rw[h2] at this;cases this
theorem kU:∀ (ks:List Nat) (tm:List Slot) (sc:List (Nat×Slot)) (t:Nat),tlook ks (commit ks tm sc) t=.dead∨tlook ks (commit ks tm sc) t=(match bZ sc t with|some s=>k6 s|none=>tlook ks tm t)
 |[],tm,sc,t=>.inl (by cases tm <;> rfl)
 |k::ks,[],sc,t=>.inl rfl
 |k::ks,s::ss,sc,t=>by
  simp only[commit,tlook];cases hk:Nat.beq k t with
  |true =>
   have:=Nat.eq_of_beq_eq_true hk
   subst this;exact .inr rfl
  |false =>
   simp only[cond_false];exact kU ks ss sc t
theorem wD (h:List (Nat×Option Nat)):∀ (ks:List Nat) (tm:List Slot) (t:Nat),tlook ks (gM h ks tm) t=.dead∨tlook ks (gM h ks tm) t=mD (aAR h t) (tlook ks tm t)
 |[],tm,t=>.inl (by cases tm <;> rfl)
 |k::ks,[],t=>.inl rfl
 |k::ks,s::ss,t=>by
  simp only[gM,tlook];cases hk:Nat.beq k t with
  |true =>
   have:=Nat.eq_of_beq_eq_true hk
   subst this;exact .inr rfl
  |false =>
   simp only[cond_false];exact wD h ks ss t
theorem qB (f:Slot→Slot) (hf:f .dead=.dead):∀ (ks:List Nat) (tm:List Slot) (t:Nat),tlook ks (tm.map f) t=f (tlook ks tm t)
 |[],tm,t=>by cases tm <;> simp [tlook,hf]
 |k::ks,[],t=>by simp [tlook,hf]
 |k::ks,s::ss,t=>by
  simp only[List.map_cons,tlook];cases hk:Nat.beq k t with
  |true=>rfl
  |false=>exact qB f hf ks ss t
theorem noRef.tlook (h:noRef tm) (ks:List Nat) (t u o:Nat):tlook ks tm t≠.ref u o:=by
 rcases m6 (ks:=ks) (tm:=tm) (t:=t) with h1|h1
 ·rw[h1];simp
 ·exact h _ h1 u o
theorem mh (s:Slot) (u o:Nat):k6 s≠.ref u o:=by cases s <;> simp [k6]
theorem noRef.commit:∀ {ks:List Nat} {tm:List Slot} {sc:List (Nat×Slot)},noRef tm→noRef (commit ks tm sc)
 |[],tm,sc,h=>by cases tm <;> (intro s hs;simp [AM.commit] at hs)
 |k::ks,[],sc,h=>by intro s hs;simp [AM.commit] at hs
 |k::ks,s::ss,sc,h=>by
  intro x hx u o;simp only[AM.commit,List.mem_cons] at hx;rcases hx with hx|hx
  ·subst hx
   split
   ·exact mh _ u o
   ·exact h s (by simp) u o
  ·exact noRef.commit (ks:=ks) (tm:=ss) (sc:=sc) (fun y hy=>h y (by simp [hy])) x hx u o
theorem di {c:Option (Option Nat)} {s:Slot} (h:∀ u o,s≠.ref u o) (u o:Nat):mD c s≠.ref u o:=by
 unfold mD;split
 ·simp
 ·exact h u o
 ·split
  ·simp
  ·exact h u o
theorem noRef.head (hh:List (Nat×Option Nat)):∀ {ks:List Nat} {tm:List Slot},noRef tm→noRef (gM hh ks tm)
 |[],tm,h=>by cases tm <;> (intro s hs;simp [gM] at hs)
 |k::ks,[],h=>by intro s hs;simp [gM] at hs
 |k::ks,s::ss,h=>by
  intro x hx u o;simp only[gM,List.mem_cons] at hx;rcases hx with hx|hx
  ·subst hx;exact di (h s (by simp)) u o
  ·exact noRef.head hh (ks:=ks) (tm:=ss) (fun y hy=>h y (by simp [hy])) x hx u o
structure At (P:Program) (ans:FuncId→Ann) (fid:FuncId) (B0:Nat) (w:World) (Ψ:HT) (ρ:List Nat) (ow:Own) (st:St) (tmps:Array Value):Prop where
 rel:Rel P ans B0 w Ψ ρ ow (ans fid) (sl (ans fid) st.tm ⟨[],st.sto⟩) tmps st.sto.objs
 nr:noRef st.tm
 lo:st.sto.lo≤st.sto.objs.length
theorem At.commit {fid:FuncId} {sto:Sto} (hn:noRef tm) (h:Rel P ans B0 w Ψ ρ ow (ans fid) (sl (ans fid) tm rs) tmps rs.sto.objs) (hlo:rs.sto.lo≤rs.sto.objs.length) (hs:sto=rs.sto):At P ans fid B0 w Ψ ρ ow ⟨commit (ans fid).keep tm rs.sc,sto⟩ tmps:=by
 subst hs;refine ⟨h.weak fun t=>?_,hn.commit,hlo⟩;show tlook (ans fid).keep (AM.commit (ans fid).keep tm rs.sc) t=.dead∨_;rcases kU (ans fid).keep tm rs.sc t with h1|h1
 ·exact .inl h1
 ·show _∨(tlook (ans fid).keep (AM.commit (ans fid).keep tm rs.sc) t=RS.look (ans fid).keep tm rs t∧∀ u o,tlook (ans fid).keep (AM.commit (ans fid).keep tm rs.sc) t≠.ref u o)∨_
  rw[h1];unfold RS.look;cases hs:bZ rs.sc t with
  |some s =>
   by_cases hr:∃ u o,s=.ref u o
   ·obtain ⟨u,o,rfl⟩:=hr;exact .inl rfl
   ·have:k6 s=s:=by cases s <;> simp_all [k6]
    simp only[this];exact .inr (.inl ⟨trivial,fun u o he=>hr ⟨u,o,he⟩⟩)
  |none=>exact .inr (.inl ⟨rfl,fun u o=>hn.tlook _ _ _ _⟩)
theorem At.head {fid:FuncId} {st:St} (h:At P ans fid B0 w Ψ ρ ow st tmps) (c:Code):At P ans fid B0 w Ψ ρ ow (jM (ans fid) c st) tmps∧(jM (ans fid) c st).sto=st.sto:=by
 unfold jM;split
 ·rename_i hh _
  refine ⟨⟨h.rel.weak fun t=>?_,h.nr.head hh,h.lo⟩,rfl⟩;show tlook (ans fid).keep (gM hh (ans fid).keep st.tm) t=.dead∨(tlook (ans fid).keep (gM hh (ans fid).keep st.tm) t=tlook (ans fid).keep st.tm t∧∀ u o,tlook (ans fid).keep (gM hh (ans fid).keep st.tm) t≠.ref u o)∨∃ sz,tlook (ans fid).keep (gM hh (ans fid).keep st.tm) t=_∧tlook (ans fid).keep st.tm t=_;have hnr:=fun u o=>h.nr.tlook (ans fid).keep t u o
  rcases wD hh (ans fid).keep st.tm t with h1|h1
  ·exact .inl h1
  ·rw[h1]
   unfold mD;split
   ·exact .inl rfl
   ·exact .inr (.inl ⟨rfl,hnr⟩)
   ·split
    ·exact .inr (.inr ⟨_,rfl,by assumption⟩)
    ·exact .inr (.inl ⟨rfl,hnr⟩)
 ·exact ⟨h,rfl⟩
structure MarksL (w:World) (ow:Own) (B1:Nat) (ds:List Deferred):Prop where
 all:∀ d∈ds,∃ D,d.target=.collected D∧w.heap[D]?=some (.deferred (some []))∧ow D=none∧B1≤D
 nodup:ds.Pairwise fun d d'=>d.target≠d'.target
theorem MarksL.nil (w:World) (ow:Own) (B1:Nat):MarksL w ow B1 []:=⟨by simp,by simp⟩
theorem MarksL.mono {w':World} {Ψ':HT} {ow':Own} {B1:Nat} (h:MarksL w ow B1 ds) (hF:Fr w Ψ ow w' Ψ' ow'):MarksL w' ow' B1 ds :=
 ⟨fun d hd=>by
  obtain ⟨D,h1,h2,h3,h4⟩:=h.all d hd;have hlt:D < w.heap.size:=(Array.getElem?_eq_some_iff.1 h2).1;refine ⟨D,h1,(hF.keep D hlt h3).1.trans h2,?_,h4⟩;cases e:ow' D with
  |none=>rfl
  |some x=>rcases hF.own D (by simp [e]) with h5|h5
           ·exact absurd h3 h5
           ·omega,h.nodup⟩
def Marks (w:World) (ow:Own) (B1:Nat) (b:Frame) (ds:List Deferred):Prop:=∃ ms,ds=ms++b.defers∧MarksL w ow B1 ms
theorem Marks.nil (w:World) (ow:Own) (B1:Nat) {b:Frame} (h:b.defers=[]:=by rfl):Marks w ow B1 b []:=⟨[],by rw[h];rfl,.nil w ow B1⟩
theorem Marks.mono {w':World} {Ψ':HT} {ow':Own} {B1:Nat} {b:Frame} (h:Marks w ow B1 b ds) (hF:Fr w Ψ ow w' Ψ' ow'):Marks w' ow' B1 b ds:=by
 obtain ⟨ms,h1,h2⟩:=h;exact ⟨ms,h1,h2.mono hF⟩
def Arr (P:Program) (Ψ:HT) (ρ:List Nat) (b:Frame) (cs:List Frame) (items:List Item) (m:Machine) (tmps:Array Value) (ds:List Deferred) (w:World):bM→Prop
 |.norm=>Steps P m (lone (b.atR ⟨tmps,ds⟩ items) cs w)
 |.exit id=>∃ k,exitTo id k=exitTo id items∧Steps P m (lone (b.atR ⟨tmps,ds⟩ (.code (.exit id)::k)) cs w)
 |.ret=>∃ k,Steps P m (lone (b.atR ⟨tmps,ds⟩ (.code .ret::k)) cs w)
 |.pan x=>∃ v k,VRel Ψ ρ x v∧Steps P m (lone { b.atR ⟨tmps,ds⟩ k with mode:=.panicking [{ v,recovered:=false }] } cs w)
theorem Arr.head {b:Frame} {cs:List Frame} {items:List Item} {m m1:Machine} {e:bM} (h:Arr P Ψ ρ b cs items m1 tmps ds w e) (hs:Steps P m m1):Arr P Ψ ρ b cs items m tmps ds w e:=by
 cases e with
 |norm=>exact hs.trans h
 |exit id=>obtain ⟨k,h1,h2⟩:=h;exact ⟨k,h1,hs.trans h2⟩
 |ret=>obtain ⟨k,h2⟩:=h;exact ⟨k,hs.trans h2⟩
 |pan x=>obtain ⟨v,k,h1,h2⟩:=h;exact ⟨v,k,h1,hs.trans h2⟩
structure Rest (ans:FuncId→Ann) (B0:Nat) (w:World) (Ψ:HT) (ρ:List Nat) (ow:Own) (sto:Sto):Prop where
 wsat:WSat Ψ w
 objs:OsRel w B0 Ψ ρ ow ans sto.objs
 lt:∀ b,ow b≠none→b < w.heap.size
def AtE (P:Program) (ans:FuncId→Ann) (fid:FuncId) (B0:Nat) (w:World) (Ψ:HT) (ρ:List Nat) (ow:Own) (st:St) (tmps:Array Value):bM→Prop
 |.pan _=>Rest ans B0 w Ψ ρ ow st.sto
 |_=>At P ans fid B0 w Ψ ρ ow st tmps
theorem At.rest {fid:FuncId} {st:St} (h:At P ans fid B0 w Ψ ρ ow st tmps):Rest ans B0 w Ψ ρ ow st.sto:=⟨h.rel.wsat,h.rel.objs,h.rel.lt⟩
theorem AtE.rest {fid:FuncId} {st:St} {e:bM} (h:AtE P ans fid B0 w Ψ ρ ow st tmps e):Rest ans B0 w Ψ ρ ow st.sto:=by
 cases e with
 |pan x=>exact h
 |norm=>exact At.rest h
 |exit=>exact At.rest h
 |ret=>exact At.rest h
def XEnd (P:Program) (ans:FuncId→Ann) (fid:FuncId) (B0 B1:Nat) (w:World) (Ψ:HT) (ρ:List Nat) (ow:Own) (sto:Sto) (b:Frame) (cs:List Frame) (items:List Item) (m:Machine) (e:bM) (st':St):Prop :=
 ∃ w' Ψ' ρ' ow' tmps' ds',AtE P ans fid B0 w' Ψ' ρ' ow' st' tmps' e∧Marks w' ow' B1 b ds'∧Fr w Ψ ow w' Ψ' ow'∧pre ρ ρ'∧StoLe sto st'.sto∧Arr P Ψ' ρ' b cs items m tmps' ds' w' e
theorem XEnd.head {fid:FuncId} {B1:Nat} {sto:Sto} {b:Frame} {cs:List Frame} {items:List Item} {m m1:Machine} {e:bM} {st':St} (h:XEnd P ans fid B0 B1 w Ψ ρ ow sto b cs items m1 e st') (hs:Steps P m m1):XEnd P ans fid B0 B1 w Ψ ρ ow sto b cs items m e st':=by
 obtain ⟨w',Ψ',ρ',ow',tmps',ds',h1,h2,h3,h4,h5,h6⟩:=h;exact ⟨w',Ψ',ρ',ow',tmps',ds',h1,h2,h3,h4,h5,h6.head hs⟩
theorem XEnd.pre {fid:FuncId} {B1:Nat} {sto sto1:Sto} {b:Frame} {cs:List Frame} {items:List Item} {m:Machine} {e:bM} {st':St} {w1:World} {Ψ1:HT} {ρ1:List Nat} {ow1:Own} (h:XEnd P ans fid B0 B1 w1 Ψ1 ρ1 ow1 sto1 b cs items m e st') (h1:Fr w Ψ ow w1 Ψ1 ow1) (h2:AM.pre ρ ρ1) (h3:StoLe sto sto1):XEnd P ans fid B0 B1 w Ψ ρ ow sto b cs items m e st':=by
 obtain ⟨w',Ψ',ρ',ow',tmps',ds',a1,a2,a3,a4,a5,a6⟩:=h;exact ⟨w',Ψ',ρ',ow',tmps',ds',a1,a2,h1.trans a3,gN h2 a4,h3.trans a5,a6⟩
def oi (P:Program) (ans:FuncId→Ann) (B0:Nat) (lp:aT):Prop :=
 ∀ fid c st e st',lp fid c st=some (e,st')→∀ B1 w Ψ ρ ow tmps ds b cs items,b.fn=fid→(b.roundOf=none∨cB c=true)→At P ans fid B0 w Ψ ρ ow st tmps→Marks w ow B1 b ds→B1≤w.heap.size →
  XEnd P ans fid B0 B1 w Ψ ρ ow st.sto b cs items (lone (b.atR ⟨tmps,ds⟩ (.code c::.inLoop c::items)) cs w) e st'
theorem lV {b:Frame} {a:Act} {k:List Item} {cs:List Frame} {c:Code}:step P (lone (b.atR a (.code (.scope c)::k)) cs w)=.next (lone (b.atR a (.code c::.inScope c::k)) cs w) :=
 step_lone_go (by simp [stepG,stepG.exec,Frame.atR])
theorem jZ {b:Frame} {a:Act} {k:List Item} {cs:List Frame} {c:Code}:step P (lone (b.atR a (.inScope c::k)) cs w)=.next (lone (b.atR a k) cs w) :=
 step_lone_go (by simp [stepG,stepG.exec,Frame.atR])
theorem SRel.snap {t:Nat} {s:Slot} {v:Value} {w':World} {Ψ':HT} {ρ':List Nat} {tmps':Array Value} (h:SRel w B0 Ψ ρ ow tmps t s v) (hΨ:Ψ.le Ψ') (hp:pre ρ ρ'):SRel w' 0 Ψ' ρ' (fun _=>none) tmps' t (dM s) v:=by
 cases h with
 |dead=>exact .dead _
 |val x v h=>exact .val x v (h.mono hΨ hp)
 |tup=>exact .dead _
 |own sz xs v h=>exact .val _ _ (h.rel.mono hΨ (pre_nil _))
 |full xs a n h=>exact .full xs a n (h.mono hΨ (aG _))
 |nl=>exact .nl
 |nn xs a n c h=>exact .nn xs a n c (h.mono hΨ (aG _))
 |cells cs vs h=>exact .val _ _ (h.agg.mono hΨ hp)
 |box=>exact .dead _
 |ref=>exact .dead _
theorem zn (s:Slot):dM (dM s)=dM s:=by cases s <;> rfl
theorem OsRel.front {objs:List AObj} (h:OsRel w B0 Ψ ρ ow ans objs) (n:Nat) (hn:n≤objs.length):OsRel w B0 Ψ (ρ.take n) ow ans (objs.take n):=by
 refine ⟨by simp [h.1],fun i o ho=>?_⟩;rw[List.getElem?_take] at ho
 split at ho
 ·rename_i hi
  obtain ⟨b,h1,h2⟩:=h.2 i o ho;refine ⟨b,by rw[List.getElem?_take,if_pos hi];exact h1,h2.mono Ψ.le_refl ?_ (Same.refl _ _ _ _ _)⟩;rw[List.take_take,show min (i+1) n=i+1 by omega];exact aG _
 ·cases ho
end Go.AM
end
section
namespace Go.AM
variable {P:Program} {ans:FuncId→Ann} {an:Ann} {w:World} {B0:Nat} {Ψ:HT} {ρ:List Nat} {ow:Own} {tmps:Array Value}
theorem r9 {α:Type} (l a b:List α) (o:Nat) (h:o+a.length≤l.length) (hl:b.length=a.length):overwrite (overwrite l o a) o b=overwrite l o b:=by
 apply List.ext_getElem?;intro j;rw[aP _ _ _ _ (by rw[aN _ _ _ h];omega),aP _ _ _ _ h,aP _ _ _ _ (by omega)];by_cases h1:j < o
 ·simp [h1]
 ·by_cases h2:j < o+b.length
  ·simp [h1,h2]
  ·simp only[h1,h2,if_false]
   rw[if_neg (by omega)]
theorem az (w:World) (x y:Obj):(w.alloc x).putObj w.heap.size y=w.alloc y:=by
 simp only[World.alloc,World.putObj];congr 1;apply Array.ext_getElem?;intro j;rw[Array.getElem?_setIfInBounds];by_cases hj:w.heap.size=j
 ·subst hj;simp
 ·rw[if_neg hj]
  simp only[Array.getElem?_push];rw[if_neg (Ne.symm hj),if_neg (Ne.symm hj)]
theorem ic {E:Nat→Slot} {objs:List AObj} (h:Rel P ans B0 w Ψ ρ ow an E tmps objs) {sz n:Nat} {xs ys:List AVal} {v:Value} (ho:OwnRel w B0 Ψ ow (false,an.nt,1) sz xs v)
  {yv zv:List Value} (hys:∀ y∈ys,y.cells.length=sz) (hln:ys.length=n) (hn0:0 < n) (yl:yv.length=n * sz) (y1:∀ u∈yv,oneC u=true) (yr:∀ (p:Nat) c u,(aM ys)[p]?=some c→yv[p]?=some u→flat c=true∧VRel Ψ [] c u)
  (zl:zv.length=n * sz) (z1:∀ u∈zv,oneC u=true) {xa:Option Addr} {xcap:Nat} (zc:∀ w1:World,w1.heap=w.heap→(Builtin.firstCells sz n (.slice xa n xcap)).run P w1=.ok ⟨zv⟩ w1)
  {ts:Array TypeId} {ty t1 t2 e e2:TypeId} (h1:ts[0]?=some t1) (h2:ts[1]?=some t2) (hu1:P.underlying t1=some (.slice e)) (hu2:P.underlying t2=some (.slice e2)) (hsz:aZ P e=some sz) (hpos:0 < sz)
  {z:Value} (hz:(P.info? e).bind (·.zero)=some z) (hzs:z.cells.size=sz) (hby:aL P e≤16384) (hby0:0 < aL P e) (hroom:xs.length+ys.length≤room) :
  ∃ b o cap cs E' w1 w2 Ψ' ow',(Builtin.append_ ts ty #[v,.slice xa n xcap]).run P w=.ok (.slice (some ⟨b,o,none⟩) (xs.length+n) cap) w1∧w1.heap[b]?=some (.cells ⟨cs⟩ E' (0,0))∧o+(xs.length+n) * sz≤cs.length ∧
   w2=w1.putObj b (.cells ⟨overwrite cs (o+xs.length * sz) yv⟩ E' (0,0))∧Rel P ans B0 w2 Ψ' ρ ow' an E tmps objs∧OwnRel w2 B0 Ψ' ow' (false,an.nt,1) sz (xs++ys) (.slice (some ⟨b,o,none⟩) (xs.length+n) cap)∧Fr w Ψ ow w2 Ψ' ow' ∧
   ow' b=some (false,an.nt,1)∧(∀ b',b'≠b→b' < w.heap.size→w1.heap[b']?=w.heap[b']?)∧(∀ b',b' < w.heap.size→ow' b'=ow b'):=by
 obtain ⟨hx,hxs,base,sLen,sCap,rfl,hrest⟩:=ho;obtain ⟨hl,hlc,hrow⟩:=hx.rows hxs;have hbytes:∀ i,P.info? e=some i→i.bytes=aL P e:=fun i hi=>by simp [aL,hi]
 obtain ⟨ti,hti⟩:∃ ti,P.info? e=some ti:=by
  cases hi:P.info? e with
  |none=>simp [hi] at hz
  |some ti=>exact ⟨ti,rfl⟩
 have hxy:∀ u∈xs++ys,u.cells.length=sz:=fun u hu=>by
  rcases List.mem_append.1 hu with hu|hu
  ·exact hxs u hu
  ·exact hys u hu
 have hflen:(aM xs).length=sLen * sz:=by rw[bO hxs,hl]
 have hylen:(aM ys).length=n * sz:=by rw[bO hys,hln]
 rw[hl];by_cases hfit:sLen+n≤sCap
 ·
  have hlt:¬ sLen=sCap:=by omega
  rcases hrest with hrest|⟨b,o,cs,E',rfl,hob,hh,hB,hcap,hfree⟩
  ·exact absurd hrest hlt
  obtain ⟨cs⟩:=cs;have hcap':o+sCap * sz≤cs.length:=by simpa using hcap
  have hmul:(sLen+n) * sz≤sCap * sz:=Nat.mul_le_mul_right _ hfit;have hmul2:(sLen+n) * sz=sLen * sz+n * sz:=Nat.add_mul _ _ _;have hblt:b < w.heap.size:=(Array.getElem?_eq_some_iff.1 hh).1;have hst:=bW (P:=P) (T:=E') zv (o+sLen * sz) 0 w cs hh z1 (by rw[zl];omega);rw[Nat.add_zero] at hst;have hw1:(w.putObj b (.cells ⟨overwrite cs (o+sLen * sz) zv⟩ E' (0,0))).heap[b]?=some (.cells ⟨overwrite cs (o+sLen * sz) zv⟩ E' (0,0)):=World.putObj_heap_same hblt
  have htw:(w.putObj b (.cells ⟨overwrite cs (o+sLen * sz) zv⟩ E' (0,0))).putObj b (.cells ⟨overwrite (overwrite cs (o+sLen * sz) zv) (o+sLen * sz) yv⟩ E' (0,0))=w.putObj b (.cells ⟨overwrite cs (o+sLen * sz) yv⟩ E' (0,0)):=by
   rw[nL,r9 _ _ _ _ (by rw[zl];omega) (by rw[yl,zl])]
  generalize hw':w.putObj b (.cells ⟨overwrite cs (o+sLen * sz) yv⟩ E' (0,0))=w' at htw;have hheap:w'.heap[b]?=some (.cells ⟨overwrite cs (o+sLen * sz) yv⟩ E' (0,0)):=by rw[←hw'];exact World.putObj_heap_same hblt
  have hother:∀ b',b'≠b→w'.heap[b']?=w.heap[b']?:=fun b' hb'=>by rw[←hw'];exact World.putObj_heap_other hb'
  have hsize:w'.heap.size=w.heap.size:=by rw[←hw'];simp
  let Ψ':HT:=fun b' o'=>if b'=b∧o+sLen * sz≤o'∧o' < o+sLen * sz+n * sz then (fun c=>(aM ys)[o' - (o+sLen * sz)]?=some c) else Ψ b' o'
  have hle:Ψ.le Ψ':=fun b' o' c hc=>by
   have:¬ (b'=b∧o+sLen * sz≤o'∧o' < o+sLen * sz+n * sz):=fun ⟨e1,e2,_⟩=>by subst e1;rw[hfree o' e2] at hc;exact hc
   simp only[Ψ',if_neg this];exact hc
  have hΨo:∀ b',b'≠b→∀ o',Ψ' b' o'=Ψ b' o':=fun b' hb' o'=>by simp [Ψ',hb']
  have hsame:∀ kk i,¬ (kk=false∧i=an.nt)→Same w Ψ ow w' Ψ' ow kk i kk i:=fun kk i hk b' s hb'=>by
   have hne:b'≠b:=fun e=>by subst e;rw[hob] at hb';simp only[Option.some.injEq,Prod.mk.injEq] at hb';exact hk ⟨hb'.1.symm,hb'.2.1.symm⟩
   exact ⟨hb',hother b' hne,fun o' ho'=>by rw[hΨo b' hne];exact ho'⟩
  have hws:WSat Ψ' w':=⟨by rw[hsize];exact h.wsat.size8,fun b' o' c hc=>by
   by_cases hb':b'=b
   ·subst hb'
    by_cases hin:o+sLen * sz≤o'∧o' < o+sLen * sz+n * sz
    ·simp only[Ψ',hin,and_self,true_and,if_true] at hc
     have hp:o' - (o+sLen * sz) < yv.length:=by rw[yl];omega
     obtain ⟨f1,f2⟩:=yr _ c yv[o' - (o+sLen * sz)] hc (by simp [hp]);refine ⟨f1,yv[o' - (o+sLen * sz)],?_,f2.mono hle (aG _)⟩;rw[cell_of_heap hheap,aP _ _ _ _ (by rw[yl];omega),if_neg (by omega),if_pos (by rw[yl];omega)];simp [hp]
    ·have hc':Ψ b' o' c:=by
      have:¬ (b'=b'∧o+sLen * sz≤o'∧o' < o+sLen * sz+n * sz):=fun e=>hin e.2
      simpa only [Ψ',if_neg this] using hc
     have hlo:o' < o+sLen * sz:=by
      rcases Nat.lt_or_ge o' (o+sLen * sz) with h'|h'
      ·exact h'
      ·rw[hfree o' h'] at hc';exact (hc':False).elim
     obtain ⟨f1,u,f2,f3⟩:=h.wsat.sat b' o' c hc';refine ⟨f1,u,?_,f3.mono hle (aG _)⟩;rw[cell_of_heap hh] at f2;rw[cell_of_heap hheap,aP _ _ _ _ (by rw[yl];omega),if_pos hlo];exact f2
   ·rw[hΨo b' hb'] at hc
    obtain ⟨f1,u,f2,f3⟩:=h.wsat.sat b' o' c hc;exact ⟨f1,u,(cell_congr (hother b' hb') o').trans f2,f3.mono hle (aG _)⟩⟩
  refine ⟨b,o,sCap,overwrite cs (o+sLen * sz) zv,E',w.putObj b (.cells ⟨overwrite cs (o+sLen * sz) zv⟩ E' (0,0)),w',Ψ',ow,?_,hw1,by rw[aN _ _ _ (by rw[zl];omega)];omega,htw.symm,?_,?_,?_,hob,fun b' hb' _=>World.putObj_heap_other hb',fun _ _=>rfl⟩
  ·simp [Builtin.append_,h1,h2,run_underlying hu1,run_underlying hu2,run_sizeOf hsz,Builtin.lenOf,zc w rfl,hfit,cD,hst]
  ·refine ⟨h.size,hws,fun u=>?_,h.refs,h.boxes,h.objs.mono hle (fun i _=>hsame true i (by simp)),fun b' hb'=>by rw[hsize];exact h.lt b' hb',by rw[hsize];exact h.base,h.hi⟩
   rcases Nat.lt_or_ge u an.nt with hu|hu
   ·exact (h.slots u).mono hle (aG _) (hsame false u (by simp;omega)) (fun _ _ _=>rfl)
   ·rw[h.hi u hu];exact .dead _
  ·refine ⟨?_,hxy,_,_,_,rfl,.inr ⟨b,o,_,E',rfl,hob,hheap,hB,?_,?_⟩⟩
   ·refine .of_rows (s:=sz) (by simp [hl,hln]) hfit hxy fun _=>⟨b,o,rfl,fun p c hc=>?_⟩
    rw[eU,List.getElem?_append,hflen] at hc
    split at hc
    ·rename_i hp
     have hxne:xs≠[]:=by intro e;subst e;simp at hl;subst hl;simp at hp
     obtain ⟨b1,o1,e1,ht⟩:=hrow hxne;obtain ⟨rfl,rfl⟩:b=b1∧o=o1:=by simpa using e1
     exact hle _ _ _ (ht p c hc)
    ·rename_i hp
     have hp2:p - sLen * sz < n * sz:=by rw[←hylen];exact (List.getElem?_eq_some_iff.1 hc).1
     have:b=b∧o+sLen * sz≤o+p∧o+p < o+sLen * sz+n * sz:=⟨rfl,by omega,by omega⟩
     simp only[Ψ',if_pos this];rw[show o+p - (o+sLen * sz)=p - sLen * sz by omega];exact hc
   ·show o+sCap * sz≤(overwrite cs (o+sLen * sz) yv).length
    rw[aN _ _ _ (by rw[yl];omega)];exact hcap'
   ·intro o' ho'
    have:¬ (b=b∧o+sLen * sz≤o'∧o' < o+sLen * sz+n * sz):=fun e=>by have:=e.2.2;omega
    simp only[Ψ',if_neg this];exact hfree o' (by omega)
  ·exact ⟨hle,by rw[hsize];exact Nat.le_refl _,fun b' _ hb'=>by
    have hne:b'≠b:=fun e=>by subst e;rw[hob] at hb';cases hb'
    exact ⟨hother b' hne,hΨo b' hne⟩,fun _ hb'=>.inl hb',by rw[←hw'];rfl,by rw[←hw'];rfl,by rw[←hw'];rfl⟩
 ·
  obtain ⟨xv,xl,xc,xr⟩:∃ xv:List Value,xv.length=sLen * sz∧(∀ w1:World,w1.heap=w.heap→(Builtin.firstCells sz sLen (.slice base sLen sCap)).run P w1=.ok ⟨xv⟩ w1)∧∀ (p:Nat) c u,(aM xs)[p]?=some c→xv[p]?=some u→flat c=true∧VRel Ψ [] c u:=by
   by_cases hne:xs=[]
   ·subst hne
    simp at hl;subst hl;refine ⟨[],by simp,fun w1 _=>?_,by simp⟩;cases base with
    |none=>simp [Builtin.firstCells]
    |some a=>simp [Builtin.firstCells,loadCells,loadCellsFrom]
   ·obtain ⟨b,o,rfl,ht⟩:=hrow hne
    obtain ⟨xv,l1,l2,_,l4⟩:=h.wsat.row ht;have hxl:xv.length=sLen * sz:=by rw[l1,hflen]
    exact ⟨xv,hxl,fun w1 e=>cT hxl (fun p u hu=>(cell_congr (by rw[e]) _).trans (l2 p u hu)),l4⟩
  have hgrow:=nextslicecap_le (need:=sLen+n) (c:=sCap) (by omega);have hroom':sLen+n≤4294967296:=by rw[←hl,←hln];exact hroom
  have hby':aL P e=ti.bytes:=(hbytes ti hti).symm
  have hnl:¬ Builtin.nextslicecap (sLen+n) sCap * ti.bytes > 2 ^ 48:=by
   have h1:Builtin.nextslicecap (sLen+n) sCap * ti.bytes≤(2 * (sLen+n)+512) * 16384:=Nat.mul_le_mul hgrow (by rw[←hby'];exact hby);omega
  have hnb:¬ ti.bytes=0:=by rw[←hby'];omega
  obtain ⟨newCap,hnc,hcut⟩:∃ newCap,sLen+n≤newCap∧(Question.appendCap (sLen+n) sCap e).cut (w.tape w.drawn (Question.appendCap (sLen+n) sCap e))=newCap :=
   ⟨_,by simp only[Question.cut];omega,rfl⟩
  obtain ⟨w1,hw1⟩:∃ w1,w1=w.drew:=⟨_,rfl⟩
  have hw1h:w1.heap=w.heap:=by rw[hw1];rfl
  have hw1o:w1.os=w.os:=by rw[hw1];rfl
  have hw1t:w1.tape=w.tape:=by rw[hw1];rfl
  have hw1u:w1.output=w.output:=by rw[hw1];rfl
  have hfo:(Question.appendCap (sLen+n) sCap e).forced=false:=rfl;have h':=h.heap hw1h
  let cells0:List Value:=xv++zv++(Builtin.zeroCells z.cells (newCap - (sLen+n))).toList
  let cells:List Value:=xv++yv++(Builtin.zeroCells z.cells (newCap - (sLen+n))).toList
  have hcl:cells.length=newCap * sz:=by
   have e1:newCap * sz=(sLen+n) * sz+(newCap - (sLen+n)) * sz:=by rw[←Nat.add_mul];congr 1;omega
   simp only[cells,List.length_append,xl,yl,Array.length_toList,fX,hzs];rw[e1,Nat.add_mul]
  have hcl0:cells0.length=newCap * sz:=by
   rw[←hcl];simp only[cells,cells0,List.length_append,yl,zl]
  have hov:overwrite cells0 (0+sLen * sz) yv=cells:=by
   simp only[cells0,cells,overwrite,Nat.zero_add,←xl,List.append_assoc,List.take_left];congr 2;rw[←List.append_assoc,List.drop_append,List.drop_eq_nil_of_le (by simp [zl,yl])];simp [zl,yl]
  have hmulc:(sLen+n) * sz≤newCap * sz:=Nat.mul_le_mul_right _ hnc
  have hrun:(Builtin.append_ ts ty #[.slice base sLen sCap,.slice xa n xcap]).run P w=.ok (.slice (some ⟨w1.heap.size,0,none⟩) (sLen+n) newCap) (w1.alloc (.cells ⟨cells0⟩ e)):=by
   simp only[Builtin.append_,Sem.run_bind,h1,h2];simp [run_underlying hu1,run_underlying hu2,run_sizeOf hsz,Builtin.lenOf,hfit,run_typeInfo hti,hnb,hnl,hfo,hcut,←hw1,xc w1 hw1h,zc w1 hw1h,aQ hz,newRow,cells0];congr 2;apply Array.ext';simp
  let τ:Nat→Option AVal:=fun off=>(aM (xs++ys))[off]?
  have hτ:∀ off c,τ off=some c→flat c=true∧∃ u,(w1.alloc (.cells ⟨cells⟩ e)).cell? ⟨w1.heap.size,off,none⟩=some u∧VRel Ψ [] c u:=fun off c hc=>by
   have hcell:(w1.alloc (.cells ⟨cells⟩ e)).cell? ⟨w1.heap.size,off,none⟩=cells[off]?:=cell_of_heap (heap_alloc_new _) off;simp only[τ] at hc;rw[eU,List.getElem?_append,hflen] at hc
   split at hc
   ·rename_i hp
    have hx':off < xv.length:=by rw[xl];exact hp
    obtain ⟨f1,f2⟩:=xr off c xv[off] hc (by simp [hx']);refine ⟨f1,xv[off],?_,f2⟩;rw[hcell];simp only[cells,List.append_assoc];rw[List.getElem?_append_left hx'];simp [hx']
   ·rename_i hp
    have hp2:off - sLen * sz < yv.length:=by rw[yl,←hylen];exact (List.getElem?_eq_some_iff.1 hc).1
    obtain ⟨f1,f2⟩:=yr _ c yv[off - sLen * sz] hc (by simp [hp2]);refine ⟨f1,yv[off - sLen * sz],?_,f2⟩;rw[hcell];simp only[cells,List.append_assoc];rw[List.getElem?_append_right (by rw[xl];omega),xl,List.getElem?_append_left hp2];simp [hp2]
  have hR:=h'.alloc (o:=.cells ⟨cells⟩ e) (τ:=τ) (id:=some (false,an.nt,1)) hτ;have hfin:w1.alloc (.cells ⟨cells⟩ e)=(w1.alloc (.cells ⟨cells0⟩ e)).putObj w1.heap.size (.cells ⟨overwrite cells0 (0+sLen * sz) yv⟩ e (0,0)):=by rw[hov,az]
  refine ⟨w1.heap.size,0,newCap,cells0,e,w1.alloc (.cells ⟨cells0⟩ e),_,_,_,hrun,heap_alloc_new _,by rw[hcl0];omega,hfin,hR,⟨?_,hxy,_,_,_,rfl,.inr ⟨w1.heap.size,0,⟨cells⟩,e,rfl,by simp [oset],heap_alloc_new _,h'.base,by simpa using Nat.le_of_eq hcl.symm,?_⟩⟩,?_,by simp [oset],fun b' _ hb'=>?_,fun b' hb'=>?_⟩
  ·refine .of_rows (s:=sz) (by simp [hl,hln]) hnc hxy fun _=>⟨_,_,rfl,fun p c hc=>?_⟩
   simpa [dJ,τ] using hc
  ·intro o' ho'
   simp only[dJ,if_true,τ]
   have hnn:(aM (xs++ys))[o']?=none:=by
    rw[List.getElem?_eq_none_iff,bO hxy];simp [hl,hln] at ho' ⊢;omega
   rw[hnn];funext c;exact propext ⟨fun e=>(by cases e),fun e=>(e:False).elim⟩
  ·exact (Fr.heap hw1h hw1o hw1t hw1u).trans (Fr.alloc h'.wsat)
  ·rw[heap_alloc_old _ (by rw[hw1h];exact hb'),hw1h]
  ·unfold oset
   rw[if_neg (by rw[hw1h];omega)]
end Go.AM
end
