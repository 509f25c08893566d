import Derived.Test.YtdkkaldimefljaaGreatDoorX05
import Derived.RangeFuncIn
import Derived.RangeFuncRecord
set_option linter.all false
section
namespace Go.AM
variable {P:Program} {ans:FuncId→Ann} {an:Ann} {w:World} {B0:Nat} {Ψ:HT} {ρ:List Nat} {ow:Own} {tmps:Array Value} {R:Type} {r:R}
variable {tm:List Slot} {rs:RS} {kp:AVal→RS→Option R} {ds:List Deferred} {drawn:Bool} {cf:Oracle}
def opsS (P:Program) (ans:FuncId→Ann) (an:Ann) (drawn:Bool) (cf:Oracle) (tm:List Slot) (rid:Nat) (ops:Array Oper) (kp:AVal→RS→Option R) (kn:RS→Option R):List Nat→RS→Option R
 |[],rs=>kn rs
 |i::l,rs=>match ops[i]? with
  |some o=>oneK P ans an drawn cf tm rid ops kp o i rs fun rs'=>opsS P ans an drawn cf tm rid ops kp kn l rs'
  |none=>none
theorem opsK_eq {rid:Nat} {ops:Array Oper} {kn:RS→Option R}:∀ (n i:Nat) (rs:RS),i+n=ops.size→opsK P ans an drawn cf tm rid ops kp kn (ops.toList.drop i) i rs=opsS P ans an drawn cf tm rid ops kp kn (List.range' i n) rs
 |0,i,rs,h=>by
  rw[List.drop_of_length_le (by simp;omega)];rfl
 |n+1,i,rs,h=>by
  have hi:i < ops.size:=by omega
  rw[List.drop_eq_getElem_cons (by simpa using hi),List.range'_succ]
  simp only[opsK,opsS,Array.getElem_toList,Array.getElem?_eq_getElem hi]
  congr 1
  funext rs'
  exact opsK_eq n (i+1) rs' (by omega)
theorem opsK_range {rid:Nat} {ops:Array Oper} {kn:RS→Option R} (rs:RS):opsK P ans an drawn cf tm rid ops kp kn ops.toList 0 rs=opsS P ans an drawn cf tm rid ops kp kn (List.range ops.size) rs:=by
 have:=opsK_eq (P:=P) (ans:=ans) (an:=an) (drawn:=drawn) (cf:=cf) (tm:=tm) (rid:=rid) (ops:=ops) (kp:=kp) (kn:=kn) ops.size 0 rs (by omega)
 rw[List.drop_zero] at this
 rw[this,List.range_eq_range']
def noRef (tm:List Slot):Prop:=∀ s∈tm,∀ u o,s≠.ref u o
theorem alook_mem:∀ {sc:List (Nat×Slot)} {t:Nat} {s:Slot},alook sc t=some s→∃ p∈sc,p.1=t
 |[],t,s,h=>by simp [alook] at h
 |(k,x)::sc,t,s,h=>by
  simp only[alook] at h
  cases hk:Nat.beq k t with
  |true=>exact ⟨(k,x),by simp,Nat.eq_of_beq_eq_true hk⟩
  |false =>
   rw[hk] at h
   obtain ⟨p,hp,he⟩:=alook_mem (show alook sc t=some s from h)
   exact ⟨p,by simp [hp],he⟩
theorem tlook_mem:∀ {ks:List Nat} {tm:List Slot} {t:Nat},tlook ks tm t=.dead∨tlook ks tm t∈tm
 |[],tm,t=>.inl (by cases tm <;> rfl)
 |k::ks,[],t=>.inl rfl
 |k::ks,s::ss,t=>by
  simp only[tlook]
  cases hk:Nat.beq k t with
  |true=>exact .inr (by simp)
  |false=>rcases tlook_mem (ks:=ks) (tm:=ss) (t:=t) with h|h
          ·exact .inl h
          ·exact .inr (by simp only[cond_false];exact List.mem_cons_of_mem _ h)
theorem look_ref (hn:noRef tm) {t d o:Nat} (h:sl an tm rs t=.ref d o):∃ p∈rs.sc,alook rs.sc p.1=some (.ref d o):=by
 unfold sl RS.look at h
 split at h
 ·rename_i s hs
  subst h
  obtain ⟨p,hp,he⟩:=alook_mem hs
  exact ⟨p,hp,by rw[he];exact hs⟩
 ·rcases tlook_mem (ks:=an.keep) (tm:=tm) (t:=t) with h1|h1
  ·rw[h1] at h;cases h
  ·exact absurd h (hn _ h1 d o)
theorem Rel.dst (h:Rel P ans B0 w Ψ ρ ow an (sl an tm rs) tmps rs.sto.objs) (hn:noRef tm) {o:Oper} {s:Slot} {v:Value} (hs:SRel w B0 Ψ ρ ow tmps an.nt s v)
  (href:∀ u x,s=.ref u x→∃ cs,sl an tm rs u=.box cs) (hbox:∀ cs,s=.box cs→∃ d,o.dst=some d∧an.loc.contains d=true) (hok:dstOk an o s rs=true) :
  ∃ ow',Rel P ans B0 w Ψ ρ ow' an (sl an tm (rs.putO o.dst s)) ((⟨tmps,ds⟩:Act).put o.dst v).tmps rs.sto.objs∧Fr w Ψ ow w Ψ ow':=by
 unfold dstOk at hok
 cases hd:o.dst with
 |none=>exact ⟨ow,h,Fr.refl _ _ _⟩
 |some d =>
  rw[hd] at hok hbox
  simp only[Bool.and_eq_true,Bool.or_eq_true,Bool.not_eq_true'] at hok
  obtain ⟨⟨h1,h2⟩,h3⟩:=hok
  have hdn:d < an.nt:=by simpa [Nat.blt_eq] using h1
  have hud:∀ u x,s=.ref u x→u≠d:=fun u x he hh=>by
   subst he
   simp only[Bool.not_eq_true'] at h2
   subst hh
   have:Nat.beq u u=true:=Nat.beq_refl u
   rw[this] at h2;cases h2
  refine ⟨ren ow false an.nt false d 0,?_,Fr.ren _ _ _⟩
  rw[show sl an tm (rs.putO (some d) s)=upd (sl an tm rs) d s from look_put _ _ _ _ _]
  refine h.write d s v hdn (fun t x he=>?_) (fun u x he=>⟨hud u x he,href u x he⟩) (fun cs he=>?_) Ψ.le_refl (pre_refl _) h.wsat (fun t ht htn=>ren_other _ _ _ (by simp;omega)) ?_ (h.objs.mono Ψ.le_refl fun i _=>ren_other _ _ _ (by simp)) (fun b hb=>h.lt b (ren_ne _ hb)) (Nat.le_refl _)
  ·rcases h3 with h3|h3
   ·obtain ⟨cs,hc⟩:=h.refs t d x he
    have:=h.boxes d cs hc
    rw[h3] at this;cases this
   ·obtain ⟨p,hp,hl⟩:=look_ref hn he
    have:=List.all_eq_true.1 h3 p hp
    rw[hl] at this
    simp only[Bool.not_eq_true'] at this
    have hb:Nat.beq d d=true:=Nat.beq_refl d
    rw[hb] at this;cases this
  ·obtain ⟨d',hd',hl⟩:=hbox cs he
   cases hd';exact hl
  ·refine hs.mono Ψ.le_refl (pre_refl _) (ren_same _ _ _) (fun u x he=>?_)
   rw[getD_set _ _ _ _ (by rw[h.size];exact hdn),if_neg (hud u x he)]
def OpsPost (P:Program) (ans:FuncId→Ann) (an:Ann) (w:World) (B0:Nat) (Ψ:HT) (ρ:List Nat) (ow:Own) (tm:List Slot) (rs:RS) (ds:List Deferred) (b:Frame) (cs:List Frame) (m:Machine) (todo:List Item) (kp:AVal→RS→Option R) (next:RS→Option R) (r:R):Prop :=
 (∃ rs' w' Ψ' ρ' ow' tmps',next rs'=some r∧Rel P ans B0 w' Ψ' ρ' ow' an (sl an tm rs') tmps' rs'.sto.objs∧Fr w Ψ ow w' Ψ' ow'∧pre ρ ρ'∧StoLe rs.sto rs'.sto∧Steps P m (lone (b.atR ⟨tmps',ds⟩ todo) cs w')) ∨
 (∃ x rs' v w' Ψ' ρ' ow' tmps' todo',kp x rs'=some r∧Rel P ans B0 w' Ψ' ρ' ow' an (sl an tm rs') tmps' rs'.sto.objs∧VRel Ψ' ρ' x v∧Fr w Ψ ow w' Ψ' ow'∧pre ρ ρ'∧StoLe rs.sto rs'.sto ∧
  Steps P m (lone { b.atR ⟨tmps',ds⟩ todo' with mode:=.panicking [{ v,recovered:=false }] } cs w'))
theorem oneK_ok (h:Rel P ans B0 w Ψ ρ ow an (sl an tm rs) tmps rs.sto.objs) (hcf:CfOK P ans B0 cf) (hn:noRef tm) (hlo:rs.sto.lo≤rs.sto.objs.length) {rid:Nat} {o:Oper} {b:Frame} {ops:Array Oper} {i:Nat} {rest:List Nat} {items:List Item} {cs:List Frame} {next:RS→Option R}
  (ho:ops[i]?=some o) (e:oneK P ans an drawn cf tm rid ops kp o i rs next=some r) :
  OpsPost P ans an w B0 Ψ ρ ow tm rs ds b cs (lone (b.atR ⟨tmps,ds⟩ (.inRegion ops (i::rest)::items)) cs w) (.inRegion ops rest::items) kp next r:=by
 have go:∀ (lc:List Nat) (rs0:RS),rs0.sto=rs.sto→Rel P ans B0 w Ψ ρ ow an (sl an tm rs0) tmps rs0.sto.objs→Region.wanted o (yielded ops tmps)=true →
   stepK P ans an drawn (an.pure.contains (rid,i)) lc cf tm (an.take.contains (rid,i)) o rs0 kp (fun s rs'=>guardB (dstOk an o s rs') (next (rs'.putO o.dst s)))=some r →
   OpsPost P ans an w B0 Ψ ρ ow tm rs ds b cs (lone (b.atR ⟨tmps,ds⟩ (.inRegion ops (i::rest)::items)) cs w) (.inRegion ops rest::items) kp next r:=fun lc rs0 hs0 h0 hw e=>by
  rcases stepK_ok (ds:=ds) (b:=b) (items:=items) (cs:=cs) (rest:=rest) h0 hcf (by rw[hs0];exact hlo) ho hw e with ⟨s,rs',v,w',Ψ',ρ',ow',a1,a2,a3,a4,a5,a6,a7,a8,a9⟩|⟨x,rs',v,w',Ψ',ρ',ow',a1,a2,a3,a6,a7,a8,a9⟩
  ·obtain ⟨hg,a1⟩:=guardB_ok a1
   obtain ⟨ow2,b1,b2⟩:=a2.dst (ds:=ds) hn a3 a4 a5 hg
   have hsto:(rs'.putO o.dst s).sto=rs'.sto:=by cases o.dst <;> rfl
   have hact:((⟨tmps,ds⟩:Act).put o.dst v)=⟨((⟨tmps,ds⟩:Act).put o.dst v).tmps,ds⟩:=by cases o.dst <;> rfl
   refine .inl ⟨_,w',Ψ',ρ',ow2,_,a1,by rw[hsto];exact b1,a6.trans b2,a7,by rw[hsto,←hs0];exact a8,?_⟩
   rw[←hact];exact a9
  ·exact .inr ⟨x,rs',v,w',Ψ',ρ',ow',tmps,_,a1,a2,a3,a6,a7,by rw[←hs0];exact a8,a9⟩
 unfold oneK at e
 simp only at e
 split at e
 ·rename_i hg
  exact go _ rs rfl h (by simp [Region.wanted,hg]) e
 ·rename_i j want hg
  split at e
  ·cases e
  ·rename_i d hd
   have fin:∀ (rs0:RS),rs0.sto=rs.sto→Rel P ans B0 w Ψ ρ ow an (sl an tm rs0) tmps rs0.sto.objs→yielded ops tmps j≠some want→dstOk an o .dead rs0=true→next (rs0.putO o.dst (.tup []))=some r →
     OpsPost P ans an w B0 Ψ ρ ow tm rs ds b cs (lone (b.atR ⟨tmps,ds⟩ (.inRegion ops (i::rest)::items)) cs w) (.inRegion ops rest::items) kp next r:=fun rs0 hs0 hrel hy hok' e=>by
    have hwf:((ops[i]?).map (Region.wanted · (yielded ops tmps))).getD false=false:=by
     simp [ho,Region.wanted,hg,hy]
    obtain ⟨ow2,b1,b2⟩:=hrel.dst (ds:=ds) (v:=undef) (s:=.tup []) hn (.tup [] [] rfl (fun i x v h=>by simp at h)) (fun u x he=>by cases he) (fun cs he=>by cases he) hok'
    have hsto:(rs0.putO o.dst (.tup [])).sto=rs.sto:=by rw[←hs0];cases o.dst <;> rfl
    have hact:((⟨tmps,ds⟩:Act).put o.dst undef)=⟨((⟨tmps,ds⟩:Act).put o.dst undef).tmps,ds⟩:=by cases o.dst <;> rfl
    refine .inl ⟨_,w,Ψ,ρ,ow2,_,e,by rw[hsto,←hs0];exact b1,b2,pre_refl _,by rw[hsto];exact StoLe.refl _,?_⟩
    rw[←hact]
    have:=stepR_op_skip (P:=P) (b:=b) (a:=⟨tmps,ds⟩) (k:=items) (cs:=cs) (w:=w) (rest:=rest) hwf
    rw[ho] at this
    exact .one this
   have hgk:(∃ bb lc,sl an tm rs d=.val (.bool bb)∧(match bb==want with
     |true=>stepK P ans an drawn (an.pure.contains (rid,i)) lc cf tm (an.take.contains (rid,i)) o (rs.put d (.val (.bool bb))) kp fun s rs'=>guardB (dstOk an o s rs') (next (rs'.putO o.dst s))
     |false=>guardB (dstOk an o .dead rs) (next ((rs.put d (.val (.bool bb))).putO o.dst (.tup []))))=some r) ∨
     (sl an tm rs d=.tup []∧guardB (dstOk an o .dead rs) (next (rs.putO o.dst (.tup [])))=some r):=by
    unfold guardK at e
    split at e
    ·rename_i bb hb
     exact .inl ⟨bb,_,hb,e⟩
    ·rename_i hb
     exact .inr ⟨hb,e⟩
    ·cases e
   rcases hgk with ⟨bb,lc,hs,e⟩|⟨hs,e⟩
   rotate_left
   ·obtain ⟨hok,e⟩:=guardB_ok e
    refine fin rs rfl h ?_ hok e
    have hsl:=h.slots d
    rw[hs] at hsl
    have hv:tmps.getD d undef=.tuple #[]:=by
     generalize tmps.getD d undef=v at hsl
     cases hsl with
     |tup _ vs hl _ =>
      have:vs=[]:=List.length_eq_zero_iff.1 hl.symm
      subst this;rfl
    have:yielded ops tmps j=none:=by
     simp only[yielded,hd,Option.bind_some]
     rw[Array.getD_eq_getD_getElem?] at hv
     cases hh:tmps[d]? with
     |none=>rfl
     |some x=>rw[hh] at hv;simp only[Option.getD_some] at hv;subst hv;rfl
    rw[this];simp
   have hv:tmps.getD d undef=.bool bb:=by
    have hsl:=h.slots d
    rw[hs] at hsl
    generalize tmps.getD d undef=v at hsl
    cases hsl with
    |val _ _ hh=>cases hh;rfl
   have hsame:sl an tm (rs.put d (.val (.bool bb)))=sl an tm rs:=by
    rw[show sl an tm (rs.put d (.val (.bool bb)))=upd (sl an tm rs) d (.val (.bool bb)) from look_put _ _ _ _ _]
    funext t
    by_cases ht:t=d
    ·subst ht;rw[upd_same];exact hs.symm
    ·rw[upd_other _ _ ht]
   have hdb:tmps[d]?=some (.bool bb):=by
    rw[Array.getD_eq_getD_getElem?] at hv
    cases hh:tmps[d]? with
    |none=>rw[hh] at hv;simp [undef] at hv
    |some x=>rw[hh] at hv;simpa using hv
   have hy:yielded ops tmps j=some bb:=by simp [yielded,hd,hdb]
   have hrel:Rel P ans B0 w Ψ ρ ow an (sl an tm (rs.put d (.val (.bool bb)))) tmps (rs.put d (.val (.bool bb))).sto.objs:=by rw[hsame];exact h
   cases hbw:bb==want with
   |true =>
    rw[hbw] at e
    refine go _ (rs.put d (.val (.bool bb))) rfl hrel ?_ e
    have:bb=want:=by simpa using hbw
    simp [Region.wanted,hg,hy,this]
   |false =>
    rw[hbw] at e
    simp only at e
    obtain ⟨hok,e⟩:=guardB_ok e
    have hok':dstOk an o .dead (rs.put d (.val (.bool bb)))=true:=by
     unfold dstOk at hok ⊢
     cases hod:o.dst with
     |none=>rfl
     |some d' =>
      rw[hod] at hok
      simp only[Bool.and_eq_true,Bool.or_eq_true,Bool.not_eq_true'] at hok ⊢
      refine ⟨hok.1,?_⟩
      rcases hok.2 with h3|h3
      ·exact .inl h3
      ·refine .inr (List.all_eq_true.2 fun p hp=>?_)
       simp only[RS.put,List.mem_cons] at hp
       have hal:alook (rs.put d (.val (.bool bb))).sc p.1=if d=p.1 then some (.val (.bool bb)) else alook rs.sc p.1:=by
        simp only[RS.put,alook]
        cases hb:Nat.beq d p.1 with
        |true=>rw[if_pos (Nat.eq_of_beq_eq_true hb)];rfl
        |false =>
         rw[if_neg];rfl
         intro he;rw[he,show Nat.beq p.1 p.1=true from Nat.beq_refl p.1] at hb;cases hb
       rw[hal]
       by_cases hdp:d=p.1
       ·rw[if_pos hdp]
       ·rw[if_neg hdp]
        rcases hp with hp|hp
        ·subst hp;exact absurd rfl hdp
        ·exact List.all_eq_true.1 h3 p hp
    exact fin (rs.put d (.val (.bool bb))) rfl hrel (fun hc=>by rw[hy] at hc;rw[Option.some.inj hc] at hbw;simp at hbw) hok' e
theorem opsS_ok (hcf:CfOK P ans B0 cf) (hn:noRef tm) {rid:Nat} {b:Frame} {ops:Array Oper} {items:List Item} {cs:List Frame} {kn:RS→Option R}:∀ {l:List Nat} {rs:RS} {w:World} {Ψ:HT} {ρ:List Nat} {ow:Own} {tmps:Array Value},
  Rel P ans B0 w Ψ ρ ow an (sl an tm rs) tmps rs.sto.objs→rs.sto.lo≤rs.sto.objs.length→opsS P ans an drawn cf tm rid ops kp kn l rs=some r →
  OpsPost P ans an w B0 Ψ ρ ow tm rs ds b cs (lone (b.atR ⟨tmps,ds⟩ (.inRegion ops l::items)) cs w) (.inRegion ops []::items) kp kn r
 |[],rs,w,Ψ,ρ,ow,tmps,h,hlo,e=>.inl ⟨rs,w,Ψ,ρ,ow,tmps,e,h,Fr.refl _ _ _,pre_refl _,StoLe.refl _,Steps.refl _ _⟩
 |i::l,rs,w,Ψ,ρ,ow,tmps,h,hlo,e=>by
  simp only[opsS] at e
  split at e
  ·rename_i o ho
   rcases oneK_ok (ds:=ds) (b:=b) (items:=items) (cs:=cs) (rest:=l) h hcf hn hlo ho e with ⟨rs',w',Ψ',ρ',ow',tmps',a1,a2,a3,a4,a5,a6⟩|⟨x,rs',v,w',Ψ',ρ',ow',tmps',todo',a1,a2,a3,a4,a5,a6,a7⟩
   ·rcases opsS_ok hcf hn (b:=b) (items:=items) (cs:=cs) a2 (by rw[a5.lo];exact Nat.le_trans hlo a5.len) a1 with ⟨rs2,w2,Ψ2,ρ2,ow2,tmps2,b1,b2,b3,b4,b5,b6⟩|⟨x,rs2,v,w2,Ψ2,ρ2,ow2,tmps2,todo2,b1,b2,b3,b4,b5,b6,b7⟩
    ·exact .inl ⟨rs2,w2,Ψ2,ρ2,ow2,tmps2,b1,b2,a3.trans b3,pre_trans a4 b4,a5.trans b5,a6.trans b6⟩
    ·exact .inr ⟨x,rs2,v,w2,Ψ2,ρ2,ow2,tmps2,todo2,b1,b2,b3,a3.trans b4,pre_trans a4 b5,a5.trans b6,a6.trans b7⟩
   ·exact .inr ⟨x,rs',v,w',Ψ',ρ',ow',tmps',todo',a1,a2,a3,a4,a5,a6,a7⟩
  ·cases e
end Go.AM
end
section
namespace Go.AM
variable {P:Program} {ans:FuncId→Ann} {an:Ann} {w:World} {B0:Nat} {Ψ:HT} {ρ:List Nat} {ow:Own} {tmps:Array Value} {R:Type} {r:R}
variable {tm:List Slot} {rs:RS} {ds:List Deferred} {cf:Oracle} {lp:LpOracle}
theorem Rel.weak {E E':Nat→Slot} {objs:List AObj} (h:Rel P ans B0 w Ψ ρ ow an E tmps objs) (hE:∀ t,E' t=.dead∨(E' t=E t∧∀ u o,E' t≠.ref u o)∨∃ sz,E' t=.own sz []∧E t=.nl):Rel P ans B0 w Ψ ρ ow an E' tmps objs:=by
 refine ⟨h.size,h.wsat,fun t=>?_,fun d u o e=>?_,fun t cs e=>?_,h.objs,h.lt,h.base,fun t ht=>?_⟩
 ·rcases hE t with h1|⟨h1,_⟩|⟨sz,h1,h2⟩
  ·rw[h1];exact .dead _
  ·rw[h1];exact h.slots t
  ·have:=h.slots t
   rw[h2] at this
   rw[h1]
   generalize tmps.getD t undef=v at this
   cases this with|nl=>exact .own _ _ _ (ownNil _ _)
 ·rcases hE d with h1|⟨_,h2⟩|⟨sz,h1,_⟩
  ·rw[h1] at e;cases e
  ·exact absurd e (h2 u o)
  ·rw[h1] at e;cases e
 ·rcases hE t with h1|⟨h1,_⟩|⟨sz,h1,_⟩
  ·rw[h1] at e;cases e
  ·rw[h1] at e;exact h.boxes t cs e
  ·rw[h1] at e;cases e
 ·rcases hE t with h1|⟨h1,_⟩|⟨sz,h1,h2⟩
  ·exact h1
  ·rw[h1];exact h.hi t ht
  ·have:=h.hi t ht;rw[h2] at this;cases this
theorem tlook_commit:∀ (ks:List Nat) (tm:List Slot) (sc:List (Nat×Slot)) (t:Nat),tlook ks (commit ks tm sc) t=.dead∨tlook ks (commit ks tm sc) t=(match alook sc t with|some s=>persist s|none=>tlook ks tm t)
 |[],tm,sc,t=>.inl (by cases tm <;> rfl)
 |k::ks,[],sc,t=>.inl rfl
 |k::ks,s::ss,sc,t=>by
  simp only[commit,tlook]
  cases hk:Nat.beq k t with
  |true =>
   have:=Nat.eq_of_beq_eq_true hk
   subst this
   exact .inr rfl
  |false =>
   simp only[cond_false]
   exact tlook_commit ks ss sc t
theorem tlook_head (h:List (Nat×Option Nat)):∀ (ks:List Nat) (tm:List Slot) (t:Nat),tlook ks (headTm h ks tm) t=.dead∨tlook ks (headTm h ks tm) t=headSlot (hlook h t) (tlook ks tm t)
 |[],tm,t=>.inl (by cases tm <;> rfl)
 |k::ks,[],t=>.inl rfl
 |k::ks,s::ss,t=>by
  simp only[headTm,tlook]
  cases hk:Nat.beq k t with
  |true =>
   have:=Nat.eq_of_beq_eq_true hk
   subst this
   exact .inr rfl
  |false =>
   simp only[cond_false]
   exact tlook_head h ks ss t
theorem tlook_map (f:Slot→Slot) (hf:f .dead=.dead):∀ (ks:List Nat) (tm:List Slot) (t:Nat),tlook ks (tm.map f) t=f (tlook ks tm t)
 |[],tm,t=>by cases tm <;> simp [tlook,hf]
 |k::ks,[],t=>by simp [tlook,hf]
 |k::ks,s::ss,t=>by
  simp only[List.map_cons,tlook]
  cases hk:Nat.beq k t with
  |true=>rfl
  |false=>exact tlook_map f hf ks ss t
theorem noRef.tlook (h:noRef tm) (ks:List Nat) (t u o:Nat):tlook ks tm t≠.ref u o:=by
 rcases tlook_mem (ks:=ks) (tm:=tm) (t:=t) with h1|h1
 ·rw[h1];simp
 ·exact h _ h1 u o
theorem persist_ref (s:Slot) (u o:Nat):persist s≠.ref u o:=by cases s <;> simp [persist]
theorem noRef.commit:∀ {ks:List Nat} {tm:List Slot} {sc:List (Nat×Slot)},noRef tm→noRef (commit ks tm sc)
 |[],tm,sc,h=>by cases tm <;> (intro s hs;simp [AM.commit] at hs)
 |k::ks,[],sc,h=>by intro s hs;simp [AM.commit] at hs
 |k::ks,s::ss,sc,h=>by
  intro x hx u o
  simp only[AM.commit,List.mem_cons] at hx
  rcases hx with hx|hx
  ·subst hx
   split
   ·exact persist_ref _ u o
   ·exact h s (by simp) u o
  ·exact noRef.commit (ks:=ks) (tm:=ss) (sc:=sc) (fun y hy=>h y (by simp [hy])) x hx u o
theorem headSlot_ref {c:Option (Option Nat)} {s:Slot} (h:∀ u o,s≠.ref u o) (u o:Nat):headSlot c s≠.ref u o:=by
 unfold headSlot
 split
 ·simp
 ·exact h u o
 ·split
  ·simp
  ·exact h u o
theorem noRef.head (hh:List (Nat×Option Nat)):∀ {ks:List Nat} {tm:List Slot},noRef tm→noRef (headTm hh ks tm)
 |[],tm,h=>by cases tm <;> (intro s hs;simp [headTm] at hs)
 |k::ks,[],h=>by intro s hs;simp [headTm] at hs
 |k::ks,s::ss,h=>by
  intro x hx u o
  simp only[headTm,List.mem_cons] at hx
  rcases hx with hx|hx
  ·subst hx;exact headSlot_ref (h s (by simp)) u o
  ·exact noRef.head hh (ks:=ks) (tm:=ss) (fun y hy=>h y (by simp [hy])) x hx u o
structure At (P:Program) (ans:FuncId→Ann) (fid:FuncId) (B0:Nat) (w:World) (Ψ:HT) (ρ:List Nat) (ow:Own) (st:St) (tmps:Array Value):Prop where
 rel:Rel P ans B0 w Ψ ρ ow (ans fid) (sl (ans fid) st.tm ⟨[],st.sto⟩) tmps st.sto.objs
 nr:noRef st.tm
 lo:st.sto.lo≤st.sto.objs.length
theorem At.commit {fid:FuncId} {sto:Sto} (hn:noRef tm) (h:Rel P ans B0 w Ψ ρ ow (ans fid) (sl (ans fid) tm rs) tmps rs.sto.objs) (hlo:rs.sto.lo≤rs.sto.objs.length) (hs:sto=rs.sto):At P ans fid B0 w Ψ ρ ow ⟨commit (ans fid).keep tm rs.sc,sto⟩ tmps:=by
 subst hs
 refine ⟨h.weak fun t=>?_,hn.commit,hlo⟩
 show tlook (ans fid).keep (AM.commit (ans fid).keep tm rs.sc) t=.dead∨_
 rcases tlook_commit (ans fid).keep tm rs.sc t with h1|h1
 ·exact .inl h1
 ·show _∨(tlook (ans fid).keep (AM.commit (ans fid).keep tm rs.sc) t=RS.look (ans fid).keep tm rs t∧∀ u o,tlook (ans fid).keep (AM.commit (ans fid).keep tm rs.sc) t≠.ref u o)∨_
  rw[h1]
  unfold RS.look
  cases hs:alook rs.sc t with
  |some s =>
   by_cases hr:∃ u o,s=.ref u o
   ·obtain ⟨u,o,rfl⟩:=hr;exact .inl rfl
   ·have:persist s=s:=by cases s <;> simp_all [persist]
    simp only[this]
    exact .inr (.inl ⟨trivial,fun u o he=>hr ⟨u,o,he⟩⟩)
  |none=>exact .inr (.inl ⟨rfl,fun u o=>hn.tlook _ _ _ _⟩)
theorem At.head {fid:FuncId} {st:St} (h:At P ans fid B0 w Ψ ρ ow st tmps) (c:Code):At P ans fid B0 w Ψ ρ ow (headSt (ans fid) c st) tmps∧(headSt (ans fid) c st).sto=st.sto:=by
 unfold headSt
 split
 ·rename_i hh _
  refine ⟨⟨h.rel.weak fun t=>?_,h.nr.head hh,h.lo⟩,rfl⟩
  show tlook (ans fid).keep (headTm hh (ans fid).keep st.tm) t=.dead∨(tlook (ans fid).keep (headTm hh (ans fid).keep st.tm) t=tlook (ans fid).keep st.tm t∧∀ u o,tlook (ans fid).keep (headTm hh (ans fid).keep st.tm) t≠.ref u o)∨∃ sz,tlook (ans fid).keep (headTm hh (ans fid).keep st.tm) t=_∧tlook (ans fid).keep st.tm t=_
  have hnr:=fun u o=>h.nr.tlook (ans fid).keep t u o
  rcases tlook_head hh (ans fid).keep st.tm t with h1|h1
  ·exact .inl h1
  ·rw[h1]
   unfold headSlot
   split
   ·exact .inl rfl
   ·exact .inr (.inl ⟨rfl,hnr⟩)
   ·split
    ·exact .inr (.inr ⟨_,rfl,by assumption⟩)
    ·exact .inr (.inl ⟨rfl,hnr⟩)
 ·exact ⟨h,rfl⟩
structure MarksL (w:World) (ow:Own) (B1:Nat) (ds:List Deferred):Prop where
 all:∀ d∈ds,∃ D,d.target=.collected D∧w.heap[D]?=some (.deferred (some []))∧ow D=none∧B1≤D
 nodup:ds.Pairwise fun d d'=>d.target≠d'.target
theorem MarksL.nil (w:World) (ow:Own) (B1:Nat):MarksL w ow B1 []:=⟨by simp,by simp⟩
theorem MarksL.mono {w':World} {Ψ':HT} {ow':Own} {B1:Nat} (h:MarksL w ow B1 ds) (hF:Fr w Ψ ow w' Ψ' ow'):MarksL w' ow' B1 ds :=
 ⟨fun d hd=>by
  obtain ⟨D,h1,h2,h3,h4⟩:=h.all d hd
  have hlt:D < w.heap.size:=(Array.getElem?_eq_some_iff.1 h2).1
  refine ⟨D,h1,(hF.keep D hlt h3).1.trans h2,?_,h4⟩
  cases e:ow' D with
  |none=>rfl
  |some x=>rcases hF.own D (by simp [e]) with h5|h5
           ·exact absurd h3 h5
           ·omega,h.nodup⟩
def Marks (w:World) (ow:Own) (B1:Nat) (b:Frame) (ds:List Deferred):Prop:=∃ ms,ds=ms++b.defers∧MarksL w ow B1 ms
theorem Marks.nil (w:World) (ow:Own) (B1:Nat) {b:Frame} (h:b.defers=[]:=by rfl):Marks w ow B1 b []:=⟨[],by rw[h];rfl,.nil w ow B1⟩
theorem Marks.mono {w':World} {Ψ':HT} {ow':Own} {B1:Nat} {b:Frame} (h:Marks w ow B1 b ds) (hF:Fr w Ψ ow w' Ψ' ow'):Marks w' ow' B1 b ds:=by
 obtain ⟨ms,h1,h2⟩:=h
 exact ⟨ms,h1,h2.mono hF⟩
def Arr (P:Program) (Ψ:HT) (ρ:List Nat) (b:Frame) (cs:List Frame) (items:List Item) (m:Machine) (tmps:Array Value) (ds:List Deferred) (w:World):AExit→Prop
 |.norm=>Steps P m (lone (b.atR ⟨tmps,ds⟩ items) cs w)
 |.exit id=>∃ k,exitTo id k=exitTo id items∧Steps P m (lone (b.atR ⟨tmps,ds⟩ (.code (.exit id)::k)) cs w)
 |.ret=>∃ k,Steps P m (lone (b.atR ⟨tmps,ds⟩ (.code .ret::k)) cs w)
 |.pan x=>∃ v k,VRel Ψ ρ x v∧Steps P m (lone { b.atR ⟨tmps,ds⟩ k with mode:=.panicking [{ v,recovered:=false }] } cs w)
theorem Arr.head {b:Frame} {cs:List Frame} {items:List Item} {m m1:Machine} {e:AExit} (h:Arr P Ψ ρ b cs items m1 tmps ds w e) (hs:Steps P m m1):Arr P Ψ ρ b cs items m tmps ds w e:=by
 cases e with
 |norm=>exact hs.trans h
 |exit id=>obtain ⟨k,h1,h2⟩:=h;exact ⟨k,h1,hs.trans h2⟩
 |ret=>obtain ⟨k,h2⟩:=h;exact ⟨k,hs.trans h2⟩
 |pan x=>obtain ⟨v,k,h1,h2⟩:=h;exact ⟨v,k,h1,hs.trans h2⟩
structure Rest (ans:FuncId→Ann) (B0:Nat) (w:World) (Ψ:HT) (ρ:List Nat) (ow:Own) (sto:Sto):Prop where
 wsat:WSat Ψ w
 objs:OsRel w B0 Ψ ρ ow ans sto.objs
 lt:∀ b,ow b≠none→b < w.heap.size
def AtE (P:Program) (ans:FuncId→Ann) (fid:FuncId) (B0:Nat) (w:World) (Ψ:HT) (ρ:List Nat) (ow:Own) (st:St) (tmps:Array Value):AExit→Prop
 |.pan _=>Rest ans B0 w Ψ ρ ow st.sto
 |_=>At P ans fid B0 w Ψ ρ ow st tmps
theorem At.rest {fid:FuncId} {st:St} (h:At P ans fid B0 w Ψ ρ ow st tmps):Rest ans B0 w Ψ ρ ow st.sto:=⟨h.rel.wsat,h.rel.objs,h.rel.lt⟩
theorem AtE.rest {fid:FuncId} {st:St} {e:AExit} (h:AtE P ans fid B0 w Ψ ρ ow st tmps e):Rest ans B0 w Ψ ρ ow st.sto:=by
 cases e with
 |pan x=>exact h
 |norm=>exact At.rest h
 |exit=>exact At.rest h
 |ret=>exact At.rest h
def XEnd (P:Program) (ans:FuncId→Ann) (fid:FuncId) (B0 B1:Nat) (w:World) (Ψ:HT) (ρ:List Nat) (ow:Own) (sto:Sto) (b:Frame) (cs:List Frame) (items:List Item) (m:Machine) (e:AExit) (st':St):Prop :=
 ∃ w' Ψ' ρ' ow' tmps' ds',AtE P ans fid B0 w' Ψ' ρ' ow' st' tmps' e∧Marks w' ow' B1 b ds'∧Fr w Ψ ow w' Ψ' ow'∧pre ρ ρ'∧StoLe sto st'.sto∧Arr P Ψ' ρ' b cs items m tmps' ds' w' e
theorem XEnd.head {fid:FuncId} {B1:Nat} {sto:Sto} {b:Frame} {cs:List Frame} {items:List Item} {m m1:Machine} {e:AExit} {st':St} (h:XEnd P ans fid B0 B1 w Ψ ρ ow sto b cs items m1 e st') (hs:Steps P m m1):XEnd P ans fid B0 B1 w Ψ ρ ow sto b cs items m e st':=by
 obtain ⟨w',Ψ',ρ',ow',tmps',ds',h1,h2,h3,h4,h5,h6⟩:=h
 exact ⟨w',Ψ',ρ',ow',tmps',ds',h1,h2,h3,h4,h5,h6.head hs⟩
theorem XEnd.pre {fid:FuncId} {B1:Nat} {sto sto1:Sto} {b:Frame} {cs:List Frame} {items:List Item} {m:Machine} {e:AExit} {st':St} {w1:World} {Ψ1:HT} {ρ1:List Nat} {ow1:Own} (h:XEnd P ans fid B0 B1 w1 Ψ1 ρ1 ow1 sto1 b cs items m e st') (h1:Fr w Ψ ow w1 Ψ1 ow1) (h2:AM.pre ρ ρ1) (h3:StoLe sto sto1):XEnd P ans fid B0 B1 w Ψ ρ ow sto b cs items m e st':=by
 obtain ⟨w',Ψ',ρ',ow',tmps',ds',a1,a2,a3,a4,a5,a6⟩:=h
 exact ⟨w',Ψ',ρ',ow',tmps',ds',a1,a2,h1.trans a3,pre_trans h2 a4,h3.trans a5,a6⟩
def LpOK (P:Program) (ans:FuncId→Ann) (B0:Nat) (lp:LpOracle):Prop :=
 ∀ fid c st e st',lp fid c st=some (e,st')→∀ B1 w Ψ ρ ow tmps ds b cs items,b.fn=fid→(b.roundOf=none∨noRange c=true)→At P ans fid B0 w Ψ ρ ow st tmps→Marks w ow B1 b ds→B1≤w.heap.size →
  XEnd P ans fid B0 B1 w Ψ ρ ow st.sto b cs items (lone (b.atR ⟨tmps,ds⟩ (.code c::.inLoop c::items)) cs w) e st'
theorem exitTo_code (id:Nat) (c:Code) (k:List Item):exitTo id (.code c::k)=exitTo id k:=rfl
theorem exitTo_loop (id:Nat) (c:Code) (k:List Item):exitTo id (.inLoop c::k)=exitTo id k:=rfl
theorem exitTo_scope (id:Nat) (c:Code) (k:List Item):exitTo id (.inScope c::k)=exitTo id k:=rfl
theorem stepR_scope {b:Frame} {a:Act} {k:List Item} {cs:List Frame} {c:Code}:step P (lone (b.atR a (.code (.scope c)::k)) cs w)=.next (lone (b.atR a (.code c::.inScope c::k)) cs w) :=
 step_lone_go (by simp [stepG,stepG.exec,Frame.atR])
theorem stepR_inScope {b:Frame} {a:Act} {k:List Item} {cs:List Frame} {c:Code}:step P (lone (b.atR a (.inScope c::k)) cs w)=.next (lone (b.atR a k) cs w) :=
 step_lone_go (by simp [stepG,stepG.exec,Frame.atR])
theorem SRel.snap {t:Nat} {s:Slot} {v:Value} {w':World} {Ψ':HT} {ρ':List Nat} {tmps':Array Value} (h:SRel w B0 Ψ ρ ow tmps t s v) (hΨ:Ψ.le Ψ') (hp:pre ρ ρ'):SRel w' 0 Ψ' ρ' (fun _=>none) tmps' t (snapSlot s) v:=by
 cases h with
 |dead=>exact .dead _
 |val x v h=>exact .val x v (h.mono hΨ hp)
 |tup=>exact .dead _
 |own sz xs v h=>exact .val _ _ (h.rel.mono hΨ (pre_nil _))
 |full xs a n h=>exact .full xs a n (h.mono hΨ (pre_refl _))
 |nl=>exact .nl
 |nn xs a n c h=>exact .nn xs a n c (h.mono hΨ (pre_refl _))
 |cells cs vs h=>exact .val _ _ (h.agg.mono hΨ hp)
 |box=>exact .dead _
 |ref=>exact .dead _
theorem snap_snap (s:Slot):snapSlot (snapSlot s)=snapSlot s:=by cases s <;> rfl
theorem OsRel.front {objs:List AObj} (h:OsRel w B0 Ψ ρ ow ans objs) (n:Nat) (hn:n≤objs.length):OsRel w B0 Ψ (ρ.take n) ow ans (objs.take n):=by
 refine ⟨by simp [h.1],fun i o ho=>?_⟩
 rw[List.getElem?_take] at ho
 split at ho
 ·rename_i hi
  obtain ⟨b,h1,h2⟩:=h.2 i o ho
  refine ⟨b,by rw[List.getElem?_take,if_pos hi];exact h1,h2.mono Ψ.le_refl ?_ (Same.refl _ _ _ _ _)⟩
  rw[List.take_take,show min (i+1) n=i+1 by omega];exact pre_refl _
 ·cases ho
end Go.AM
end
