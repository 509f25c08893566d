/- Part S16 of the proof of one law of the program. -/
import Derived.Test.YtkmnkiekmlcfdaaGreatDoorC07
import Derived.Test.YtkmnkiekmlcfdaaGreatDoorS10
import Derived.Test.YtkmnkiekmlcfdaaGreatDoorE11
set_option linter.all false
section
namespace Go.Proofs.YtkmnkiekmlcfdaaGreatDoor
open Go.AM
set_option maxRecDepth 100000
theorem runN_take (p:Int→Bool) (s:List UInt8) (i:Nat) (h:i≤s.length):(runN p s i=s.length - i)↔((s.drop i).all fun b=>p (b.toNat:Nat))=true:=by
 have key:∀ l:List UInt8,((l.takeWhile fun b=>p (b.toNat:Nat)).length=l.length)↔(l.all fun b=>p (b.toNat:Nat))=true:=by
  intro l;induction l with
  |nil=>simp
  |cons a l ih =>
   rw[List.takeWhile_cons,List.all_cons];cases p (a.toNat:Nat) with
   |true=>simp only[if_true,List.length_cons,Bool.true_and];rw[←ih];omega
   |false=>simp
 unfold runN;rw[←key,List.length_drop]
theorem runN_step (p:Int→Bool) (s:List UInt8) (i:Nat) (h:i < s.length) (hp:p (peekN s i)=true):runN p s i=1+runN p s (i+1):=by
 unfold runN;rw[List.drop_eq_getElem_cons h,List.takeWhile_cons]
 have:peekN s i=(s[i].toNat:Nat):=by unfold peekN;rw[List.getElem?_eq_getElem h]
 rw[←this,hp];simp only[if_true,List.length_cons];omega
theorem runN_no (p:Int→Bool) (s:List UInt8) (i:Nat) (hp:i < s.length→p (peekN s i)=false):runN p s i=0:=by
 unfold runN;rcases Nat.lt_or_ge i s.length with h|h
 ·rw[List.drop_eq_getElem_cons h,List.takeWhile_cons]
  have:peekN s i=(s[i].toNat:Nat):=by unfold peekN;rw[List.getElem?_eq_getElem h]
  rw[←this,hp h];rfl
 ·rw[List.drop_eq_nil_of_le h];rfl
theorem peekN_end (s:List UInt8):peekN s s.length=0:=by unfold peekN;rw[List.getElem?_eq_none (Nat.le_refl _)]
theorem nameN_le (s:List UInt8) (h:0 < s.length):nameN s 0≤s.length:=by
 have h1:=runN_le partI s 0;have h2:=runN_le digI s (0+(runN partI s 0+1));unfold nameN;simp only[Nat.zero_add] at *;cases h3:(peekN s (runN partI s 0)==39) with
 |false=>simp only[cond_false];omega
 |true =>
  have h5:runN partI s 0 < s.length:=peekN_pos _ _ (by intro e;rw[e] at h3;cases h3);simp only[cond_true];cases decide (((runN digI s (runN partI s 0+1):Nat):Int) > 0) with
  |true=>simp only[cond_true];omega
  |false=>simp only[cond_false];omega
def coreB (s:List UInt8):Bool :=
 bif ((1+runN partI s 1:Nat):Int)==(s.length:Nat) then true
 else bif peekN s (1+runN partI s 1) != 39 then false
 else bif ((1+runN partI s 1+1:Nat):Int)==(s.length:Nat) then false
 else (s.drop (1+runN partI s 1+1)).all fun b=>digI (b.toNat:Nat)
theorem core_name (s:List UInt8) (h:0 < s.length) (hp:partI (peekN s 0)=true):coreB s=true↔nameN s 0=s.length:=by
 have hr:=runN_step partI s 0 h hp;have hl:=runN_le partI s 1;unfold coreB nameN;simp only[Nat.zero_add] at *;rw[hr];generalize runN partI s 1=r at *;cases h1:(((1+r:Nat):Int)==(s.length:Nat)) with
 |true =>
  have h1':1+r=s.length:=by have:((1+r:Nat):Int)=(s.length:Nat):=by simpa using h1
                            omega
  rw[h1',peekN_end];simp
 |false =>
  have h1':1+r≠s.length:=fun e=>by rw[e] at h1;simp at h1
  have hlt:1+r < s.length:=by omega
  simp only[cond_false];cases h2:(peekN s (1+r)==39) with
  |false =>
   have h2':(peekN s (1+r) != 39)=true:=by simp only[bne,h2,Bool.not_false]
   simp only[h2',cond_true,cond_false];constructor
   ·intro e;cases e
   ·intro e;exact absurd e h1'
  |true =>
   have h2':(peekN s (1+r) != 39)=false:=by simp only[bne,h2,Bool.not_true]
   simp only[h2',cond_true,cond_false];have hd:=runN_le digI s (1+r+1);cases h3:(((1+r+1:Nat):Int)==(s.length:Nat)) with
   |true =>
    have h3':1+r+1=s.length:=by have:((1+r+1:Nat):Int)=(s.length:Nat):=by simpa using h3
                                omega
    have h0:runN digI s (1+r+1)=0:=by omega
    rw[h0];simp only[cond_true];constructor
    ·intro e;cases e
    ·intro e;exact absurd e h1'
   |false =>
    have h3':1+r+1≠s.length:=fun e=>by rw[e] at h3;simp at h3
    simp only[cond_false];rw[←runN_take digI s (1+r+1) (by omega)];cases h4:decide (((runN digI s (1+r+1):Nat):Int) > 0) with
    |true=>simp only[cond_true];omega
    |false =>
     simp only[cond_false];rw[decide_eq_false_iff_not] at h4;omega
theorem nameT_len (s:List UInt8) (h:0 < s.length):(nameT s 0).length=nameN s 0:=by
 have:=nameN_le s h
 unfold nameT;rw[List.drop_zero,List.length_take];omega
theorem nameT_all (s:List UInt8) (h:0 < s.length):nameT s 0=s↔nameN s 0=s.length:=by
 constructor
 ·intro e;rw[←nameT_len s h,e]
 ·intro e;unfold nameT;rw[e,Nat.zero_add,List.drop_zero,List.take_length]
theorem wordB_eq (lo hi:Int) (s:List UInt8):wordB lo hi s=(decide (1≤s.length)&&decide (s.length≤24)&&(decide (lo≤peekN s 0)&&decide (peekN s 0≤hi))&&coreB s):=by
 unfold wordB coreB;cases h1:decide ((s.length:Int) < 1) with
 |true =>
  have:decide (1≤s.length)=false:=by rw[decide_eq_true_eq] at h1;rw[decide_eq_false_iff_not];omega
  rw[this];rfl
 |false =>
  have:decide (1≤s.length)=true:=by rw[decide_eq_false_iff_not] at h1;rw[decide_eq_true_eq];omega
  rw[this];cases h2:decide ((s.length:Int) > 24) with
  |true =>
   have:decide (s.length≤24)=false:=by rw[decide_eq_true_eq] at h2;rw[decide_eq_false_iff_not];omega
   rw[this];rfl
  |false =>
   have:decide (s.length≤24)=true:=by rw[decide_eq_false_iff_not] at h2;rw[decide_eq_true_eq];omega
   rw[this];cases h3:decide (peekN s 0 < lo) with
   |true =>
    have:decide (lo≤peekN s 0)=false:=by rw[decide_eq_true_eq] at h3;rw[decide_eq_false_iff_not];omega
    rw[this];rfl
   |false =>
    have:decide (lo≤peekN s 0)=true:=by rw[decide_eq_false_iff_not] at h3;rw[decide_eq_true_eq];omega
    rw[this];cases h4:decide (peekN s 0 > hi) with
    |true =>
     have:decide (peekN s 0≤hi)=false:=by rw[decide_eq_true_eq] at h4;rw[decide_eq_false_iff_not];omega
     rw[this];rfl
    |false =>
     have:decide (peekN s 0≤hi)=true:=by rw[decide_eq_false_iff_not] at h4;rw[decide_eq_true_eq];omega
     rw[this];rfl
theorem kok (s:List UInt8):KOK s (kdF s):=(p163k s).2
theorem not_space {c:Int} (h:partI c=true∨(c==39)=true):spaceI c=false∧c≠40:=by
 simp only[partI,smallI,greatI,digI,spaceI,Bool.or_eq_true,Bool.and_eq_true,decide_eq_true_eq,beq_iff_eq,Bool.or_eq_false_iff,beq_eq_false_iff_ne,ne_eq] at h ⊢;omega
theorem stay0 (s:List UInt8) (h:0 < s.length) (hc:spaceI (peekN s 0)=false∧peekN s 0≠40):Stay s 0:=by
 refine ⟨runN_no spaceI s 0 fun _=>hc.1,?_⟩;cases s with
 |nil=>simp at h
 |cons b l =>
  have h1:peekN (b::l) 0=(b.toNat:Nat):=rfl;rw[h1] at hc
  have:(40:UInt8)≠b:=fun e=>by subst e;exact hc.2 rfl
  show List.isPrefixOf [40,42] (b::l)=false;simp only[List.isPrefixOf];rw[show ((40:UInt8)==b)=false by simpa using this];rfl
end Go.Proofs.YtkmnkiekmlcfdaaGreatDoor
end
section
namespace Go.Proofs.YtkmnkiekmlcfdaaGreatDoor
open Go.AM
set_option maxRecDepth 100000
theorem great_rng {c:Int}:greatI c=(decide (65≤c)&&decide (c≤90)):=rfl
theorem small_rng {c:Int}:smallI c=(decide (97≤c)&&decide (c≤122)):=rfl
theorem sole_name (s:List UInt8) (h1:0 < s.length) (h2:s.length≤24) (hc:smallI (peekN s 0)=true∨greatI (peekN s 0)=true) (hn:nameN s 0=s.length):Sole s:=by
 have hp:partI (peekN s 0)=true:=by rcases hc with h|h;exact part_of_small h;exact part_of_great h
 refine ⟨⟨h1,fun hr=>?_,fun kd txt hq=>?_⟩,stay0 s h1 (not_space (.inl hp))⟩
 ·rcases hc with h|h
  ·have:=hr.small h;omega
  ·have:=hr.great h;omega
 ·rcases hc with h|h
  ·rw[(hq.small h).1,nameT_len s h1];omega
  ·have h3:=(noGreat h).1
   rw[(hq.great h3 h).1,nameT_len s h1];omega
theorem kd_con (s:List UInt8):isK kdF 3 s=wordB 65 90 s:=by
 rw[wordB_eq];unfold isK;obtain ⟨hA,hB⟩:=kok s;rw[Bool.eq_iff_iff];constructor
 ·intro h
  have h3:kdF s=3:=by simpa using h
  rw[h3] at hA;obtain ⟨hl,hq⟩:=hA (by decide)
  have hg:greatI (peekN s 0)=true:=by
   cases hs:smallI (peekN s 0) with
   |true =>
    have:=(hq.small hs).2
    cases hw:wordL.contains s <;> rw[hw] at this <;> cases this
   |false =>
    cases hg:greatI (peekN s 0) with
    |true=>rfl
    |false =>
     exfalso;cases h39:(peekN s 0==39) with
     |false=>rcases hq.other hs hg (.inl h39) with e|e <;> cases e
     |true =>
      cases h1:smallI (peekN s (0+1)) with
      |false=>rcases hq.other hs hg (.inr h1) with e|e <;> cases e
      |true=>have:=(hq.var h39 h1).2;cases this
  have hlen:0 < s.length:=peekN_pos s 0 (fun e=>by rw[e] at hg;cases hg);have hn:nameT s 0=s:=((hq.great (noGreat hg).1 hg).1).symm;have hcore:=(core_name s hlen (part_of_great hg)).2 ((nameT_all s hlen).1 hn);rw[great_rng] at hg;rw[hg,hcore]
  have:decide (1≤s.length)=true:=by rw[decide_eq_true_eq];omega
  rw[this,decide_eq_true hl];rfl
 ·intro h
  simp only[Bool.and_eq_true,decide_eq_true_eq] at h;obtain ⟨⟨⟨h1,h2⟩,h3,h4⟩,h5⟩:=h;have hg:greatI (peekN s 0)=true:=by rw[great_rng,Bool.and_eq_true,decide_eq_true_eq,decide_eq_true_eq];exact ⟨h3,h4⟩
  have hn:=(core_name s h1 (part_of_great hg)).1 h5;obtain ⟨kd,txt,hq,hk⟩:=hB h2 (sole_name s h1 h2 (.inr hg) hn);have ht:=hq.great (noGreat hg).1 hg;have hts:txt=s:=ht.1.trans ((nameT_all s h1).2 hn)
  have hw:wordL.contains txt=false:=by
   cases hw:wordL.contains txt with
   |false=>rfl
   |true =>
    exfalso;rw[hts] at hw;have hm:s∈wordL:=by simpa using hw
    have:∀ w∈wordL,greatI (peekN w 0)=false:=by decide
    rw[this s hm] at hg;cases hg
  rw[hk hts,ht.2,hw];rfl
theorem kd_name (s:List UInt8):isK kdF 2 s=nameB s:=by
 unfold nameB;rw[wordB_eq];unfold isK;obtain ⟨hA,hB⟩:=kok s
 have hcon:(wordL.any fun y=>y==s)=wordL.contains s:=by
  rw[Bool.eq_iff_iff,List.any_eq_true];constructor
  ·rintro ⟨y,hy,e⟩
   have:y=s:=by simpa using e
   subst this;simpa using hy
  ·intro h
   exact ⟨s,by simpa using h,by simp⟩
 rw[hcon,Bool.eq_iff_iff];constructor
 ·intro h
  have h3:kdF s=2:=by simpa using h
  rw[h3] at hA;obtain ⟨hl,hq⟩:=hA (by decide)
  have hg:smallI (peekN s 0)=true:=by
   cases hs:smallI (peekN s 0) with
   |true=>rfl
   |false =>
    exfalso;cases hg:greatI (peekN s 0) with
    |true =>
     have:=(hq.great hs hg).2
     cases hw:wordL.contains s <;> rw[hw] at this <;> cases this
    |false =>
     cases h39:(peekN s 0==39) with
     |false=>rcases hq.other hs hg (.inl h39) with e|e <;> cases e
     |true =>
      cases h1:smallI (peekN s (0+1)) with
      |false=>rcases hq.other hs hg (.inr h1) with e|e <;> cases e
      |true=>have:=(hq.var h39 h1).2;cases this
  have hlen:0 < s.length:=peekN_pos s 0 (fun e=>by rw[e] at hg;cases hg);have hsm:=hq.small hg;have hcore:=(core_name s hlen (part_of_small hg)).2 ((nameT_all s hlen).1 hsm.1.symm)
  have hw:wordL.contains s=false:=by
   have:=hsm.2
   cases hw:wordL.contains s with
   |false=>rfl
   |true=>rw[hw] at this;cases this
  rw[small_rng] at hg;rw[hg,hcore,hw]
  have:decide (1≤s.length)=true:=by rw[decide_eq_true_eq];omega
  rw[this,decide_eq_true hl];rfl
 ·intro h
  simp only[Bool.and_eq_true,decide_eq_true_eq,Bool.not_eq_true'] at h;obtain ⟨⟨⟨⟨h1,h2⟩,h3,h4⟩,h5⟩,hw⟩:=h;have hg:smallI (peekN s 0)=true:=by rw[small_rng,Bool.and_eq_true,decide_eq_true_eq,decide_eq_true_eq];exact ⟨h3,h4⟩
  have hn:=(core_name s h1 (part_of_small hg)).1 h5;obtain ⟨kd,txt,hq,hk⟩:=hB h2 (sole_name s h1 h2 (.inl hg) hn);have ht:=hq.small hg;have hts:txt=s:=ht.1.trans ((nameT_all s h1).2 hn);rw[hk hts,ht.2,hts,hw];rfl
theorem varT_len (s:List UInt8) (h:0 < s.length):varN s 0≤s.length∧(varT s 0).length=varN s 0:=by
 have:=runN_le partI s (0+1)
 have hv:varN s 0≤s.length:=by unfold varN;omega
 refine ⟨hv,?_⟩;unfold varT;rw[List.drop_zero,List.length_take];omega
theorem varT_all (s:List UInt8) (h:0 < s.length):varT s 0=s↔varN s 0=s.length:=by
 have hl:=varT_len s h;constructor
 ·intro e;rw[←hl.2,e]
 ·intro e;unfold varT;rw[e,Nat.zero_add,List.drop_zero,List.take_length]
theorem tvarB_eq (s:List UInt8):tvarB s=(decide (2≤s.length)&&decide (s.length≤24)&&(peekN s 0==39)&&smallI (peekN s 1)&&((s.drop 2).all fun b=>partI (b.toNat:Nat))):=by
 unfold tvarB;rw[small_rng];cases h1:decide ((s.length:Int) < 2) with
 |true =>
  have:decide (2≤s.length)=false:=by rw[decide_eq_true_eq] at h1;rw[decide_eq_false_iff_not];omega
  rw[this];rfl
 |false =>
  have:decide (2≤s.length)=true:=by rw[decide_eq_false_iff_not] at h1;rw[decide_eq_true_eq];omega
  rw[this];cases h2:decide ((s.length:Int) > 24) with
  |true =>
   have:decide (s.length≤24)=false:=by rw[decide_eq_true_eq] at h2;rw[decide_eq_false_iff_not];omega
   rw[this];rfl
  |false =>
   have:decide (s.length≤24)=true:=by rw[decide_eq_false_iff_not] at h2;rw[decide_eq_true_eq];omega
   rw[this];cases h3:(peekN s 0==39) with
   |false =>
    simp only[bne,h3,Bool.not_false,cond_true,cond_false];rfl
   |true =>
    simp only[bne,h3,Bool.not_true,cond_true,cond_false];cases h4:decide (peekN s 1 < 97) with
    |true =>
     have:decide (97≤peekN s 1)=false:=by rw[decide_eq_true_eq] at h4;rw[decide_eq_false_iff_not];omega
     rw[this];rfl
    |false =>
     have:decide (97≤peekN s 1)=true:=by rw[decide_eq_false_iff_not] at h4;rw[decide_eq_true_eq];omega
     rw[this];cases h5:decide (peekN s 1 > 122) with
     |true =>
      have:decide (peekN s 1≤122)=false:=by rw[decide_eq_true_eq] at h5;rw[decide_eq_false_iff_not];omega
      rw[this];rfl
     |false =>
      have:decide (peekN s 1≤122)=true:=by rw[decide_eq_false_iff_not] at h5;rw[decide_eq_true_eq];omega
      rw[this];rfl
theorem kd_var (s:List UInt8):isK kdF 4 s=tvarB s:=by
 rw[tvarB_eq];unfold isK;obtain ⟨hA,hB⟩:=kok s;rw[Bool.eq_iff_iff];constructor
 ·intro h
  have h3:kdF s=4:=by simpa using h
  rw[h3] at hA;obtain ⟨hl,hq⟩:=hA (by decide)
  have hg:(peekN s 0==39)=true∧smallI (peekN s (0+1))=true:=by
   cases hs:smallI (peekN s 0) with
   |true =>
    have:=(hq.small hs).2
    cases hw:wordL.contains s <;> rw[hw] at this <;> cases this
   |false =>
    cases hg:greatI (peekN s 0) with
    |true =>
     have:=(hq.great hs hg).2
     cases hw:wordL.contains s <;> rw[hw] at this <;> cases this
    |false =>
     cases h39:(peekN s 0==39) with
     |false=>rcases hq.other hs hg (.inl h39) with e|e <;> cases e
     |true =>
      cases h1:smallI (peekN s (0+1)) with
      |false=>rcases hq.other hs hg (.inr h1) with e|e <;> cases e
      |true=>exact ⟨rfl,rfl⟩
  rw[Nat.zero_add] at hg;have hlen:1 < s.length:=peekN_pos s 1 (fun e=>by rw[e] at hg;cases hg.2);have hn:=(varT_all s (by omega)).1 ((hq.var hg.1 hg.2).1).symm;have hr:runN partI s 1=1+runN partI s 2:=runN_step partI s 1 hlen (part_of_small hg.2);have ha:=(runN_take partI s 2 (by omega)).1 (by unfold varN at hn;simp only[Nat.zero_add] at hn;omega);rw[hg.1,hg.2,ha]
  have:decide (2≤s.length)=true:=by rw[decide_eq_true_eq];omega
  rw[this,decide_eq_true hl];rfl
 ·intro h
  simp only[Bool.and_eq_true,decide_eq_true_eq] at h;obtain ⟨⟨⟨⟨h1,h2⟩,h3⟩,h4⟩,h5⟩:=h;have hr:runN partI s 1=1+runN partI s 2:=runN_step partI s 1 (by omega) (part_of_small h4);have ha:=(runN_take partI s 2 (by omega)).2 h5;have hn:varN s 0=s.length:=by unfold varN;simp only[Nat.zero_add];omega
  have hsole:Sole s:=by
   refine ⟨⟨by omega,fun hr=>?_,fun kd txt hq=>?_⟩,stay0 s (by omega) (not_space (.inr h3))⟩
   ·have:=hr.var h3 (by rw[Nat.zero_add];exact h4);omega
   ·rw[(hq.var h3 (by rw[Nat.zero_add];exact h4)).1,(varT_len s (by omega)).2];omega
  obtain ⟨kd,txt,hq,hk⟩:=hB h2 hsole;have ht:=hq.var h3 (by rw[Nat.zero_add];exact h4);have hts:txt=s:=ht.1.trans ((varT_all s (by omega)).2 hn);rw[hk hts,ht.2];rfl
end Go.Proofs.YtkmnkiekmlcfdaaGreatDoor
end
section
namespace Go.Proofs.YtkmnkiekmlcfdaaGreatDoor
open Go.AM
set_option maxRecDepth 100000
theorem tvar_q {s:List UInt8} (h:tvarB s=true):qB s=true:=by
 unfold tvarB at h;unfold qB
 revert h
 cases decide ((s.length:Int) < 2) <;> cases decide ((s.length:Int) > 24) <;> simp only[cond_true,cond_false,Bool.false_eq_true,false_implies]
 cases h:(peekN s 0==39) <;> simp [bne,h]
theorem tvar_nq {s:List UInt8} (h:qB s=false):tvarB s=false:=by
 cases ht:tvarB s with
 |false=>rfl
 |true=>rw[tvar_q ht] at h;cases h
theorem q_other {ds:List DaD} (hQ:∀ d∈ds,qB d.name=false) {s:List UInt8} (h:qB s=true):(s==[73,110,116])=false∧(s==[45,62])=false∧(s==[44])=false∧findD ds s=none:=by
 refine ⟨?_,?_,?_,?_⟩
 ·rw[beq_eq_false_iff_ne];rintro rfl;cases h
 ·rw[beq_eq_false_iff_ne];rintro rfl;cases h
 ·rw[beq_eq_false_iff_ne];rintro rfl;cases h
 ·unfold findD
  rw[List.find?_eq_none];intro d hd e;have e':d.name=s:=by simpa using e
  rcases List.mem_cons.1 hd with hd|hd
  ·subst hd;subst e';cases h
  ·have:=hQ d hd
   rw[e',h] at this;cases this
theorem shape_same {ds:List DaD} {vs:List (List UInt8)} {fr:Bool} {t:TyD} (h:qB t.name=false):shapeR ds vs fr t=shapeD tvarB ds t:=by
 unfold shapeR shapeD;rw[h,tvar_nq h];simp only[cond_false,Bool.false_or];cases (t.name==[73,110,116]) with
 |true=>simp
 |false =>
  simp only[cond_false,Bool.false_eq_true,if_false];cases (t.name==[45,62]) with
  |true=>cases (((t.args.length:Nat):Int) != 2) <;> simp
  |false =>
   simp only[cond_false,Bool.false_eq_true,if_false];cases (t.name==[44]) with
   |true =>
    simp only[cond_true,if_true]
    have h1:decide (((t.args.length:Nat):Int) < 2)=!decide (((t.args.length:Nat):Int)≥2):=by
     rw[Bool.eq_iff_iff];simp
    have h2:decide (((t.args.length:Nat):Int) > 4)=!decide (((t.args.length:Nat):Int)≤4):=by
     rw[Bool.eq_iff_iff];simp
    rw[h1,h2];cases decide (((t.args.length:Nat):Int)≥2) <;> cases decide (((t.args.length:Nat):Int)≤4) <;> rfl
   |false =>
    simp only[cond_false,Bool.false_eq_true,if_false]
    have h1:(((t.args.length:Nat):Int) != ((((findD ds t.name).getD zeroDa).vars.length:Nat):Int))=(((((findD ds t.name).getD zeroDa).vars.length:Nat):Int) != ((t.args.length:Nat):Int)):=by
     rw[Bool.eq_iff_iff,bne_iff_ne,bne_iff_ne];exact ⟨fun e h=>e h.symm,fun e h=>e h.symm⟩
    rw[h1];cases (findD ds t.name).isSome <;> cases (((((findD ds t.name).getD zeroDa).vars.length:Nat):Int) != ((t.args.length:Nat):Int)) <;> rfl
theorem len0 {l:List TyD}:(((l.length:Nat):Int)==0)=true↔l=[]:=by
 rw[beq_iff_eq];constructor
 ·intro h;exact List.length_eq_zero_iff.1 (by omega)
 ·rintro rfl;rfl
theorem ty_same {ds:List DaD} (hQ:∀ d∈ds,qB d.name=false) (vs:List (List UInt8)) (fr:Bool):∀ (m:Nat) (t:TyD),nTyR ds vs fr m t=(!typedD tvarB ds m t||(!fr&&hasVarD tvarB (fun s=>!vs.any fun y=>s==y) t)):=by
 intro m;induction m with
 |zero=>intro t;rfl
 |succ m ih =>
  intro t
  have hsw:(vs.any fun y=>y==t.name)=vs.any fun y=>t.name==y:=by
   congr 1;funext y;rw[Bool.eq_iff_iff,beq_iff_eq,beq_iff_eq];exact ⟨fun h=>h.symm,fun h=>h.symm⟩
  cases hq:qB t.name with
  |true =>
   obtain ⟨q1,q2,q3,q4⟩:=q_other hQ hq
   have hs:shapeR ds vs fr t=some ((tvarB t.name&&((t.args.length:Nat):Int)==0)&&(fr||vs.any fun y=>y==t.name)):=by
    unfold shapeR;rw[hq];rfl
   unfold nTyR typedD;rw[hs];simp only;cases ht:tvarB t.name with
   |true =>
    have hd:shapeD tvarB ds t=some (((t.args.length:Nat):Int)==0):=by unfold shapeD;rw[ht];rfl
    rw[hd];simp only[Bool.true_and];cases hl:(((t.args.length:Nat):Int)==0) with
    |false=>rfl
    |true =>
     rw[hasVarD_eq,len0.1 hl,ht,hsw];cases fr <;> simp
   |false =>
    have hd:shapeD tvarB ds t=some false:=by unfold shapeD;rw[ht,q1,q2,q3,q4];rfl
    rw[hd];simp
  |false =>
   unfold nTyR typedD;rw[shape_same hq,hasVarD_eq,tvar_nq hq];cases hs:shapeD tvarB ds t with
   |none =>
    simp only[Bool.false_and,Bool.false_or,Bool.not_not]
    have:t.args.any (nTyR ds vs fr m)=t.args.any (fun x=>!typedD tvarB ds m x||(!fr&&hasVarD tvarB (fun s=>!vs.any fun y=>s==y) x)):=by
     congr 1;funext x;exact ih x
    rw[this];rw[Bool.eq_iff_iff];simp only[List.any_eq_true,Bool.or_eq_true,Bool.and_eq_true];constructor
    ·rintro ⟨x,hx,h|h⟩
     ·exact .inl ⟨x,hx,h⟩
     ·exact .inr ⟨h.1,x,hx,h.2⟩
    ·rintro (⟨x,hx,h⟩|⟨hf,x,hx,h⟩)
     ·exact ⟨x,hx,.inl h⟩
     ·exact ⟨x,hx,.inr ⟨hf,h⟩⟩
   |some b =>
    simp only[Bool.false_and,Bool.false_or];cases b with
    |false=>rfl
    |true =>
     have hnil:t.args=[]:=by
      unfold shapeD at hs;rw[tvar_nq hq] at hs;simp only[Bool.false_or] at hs
      revert hs
      cases h1:(t.name==[73,110,116]) with
      |true=>intro hs;simp only[if_true,Option.some.injEq] at hs;exact len0.1 hs
      |false =>
       intro hs;exfalso;simp only[Bool.false_eq_true,if_false] at hs
       revert hs
       cases (t.name==[45,62]) <;> cases (((t.args.length:Nat):Int) != 2) <;> cases (t.name==[44]) <;> cases (decide (((t.args.length:Nat):Int) < 2)||decide (((t.args.length:Nat):Int) > 4)) <;> cases (!(findD ds t.name).isSome||((((findD ds t.name).getD zeroDa).vars.length:Nat):Int) != ((t.args.length:Nat):Int)) <;> simp
     rw[hnil];simp
theorem ty_sub {ds:List DaD} (hQ:∀ d∈ds,qB d.name=false):∀ (m:Nat) (t:TyD),typedD tvarB ds m t=true→qB t.name=tvarB t.name∧(tvarB t.name=true→t.args=[])∧∀ a∈t.args,∃ m',typedD tvarB ds m' a=true:=by
 intro m t h;cases m with
 |zero=>cases h
 |succ m =>
  cases hq:qB t.name with
  |true =>
   obtain ⟨q1,q2,q3,q4⟩:=q_other hQ hq;cases ht:tvarB t.name with
   |false =>
    unfold typedD shapeD at h;rw[ht,q1,q2,q3,q4] at h;cases h
   |true =>
    unfold typedD shapeD at h;rw[ht] at h;simp only[Bool.true_or,if_true] at h;have hn:=len0.1 h;refine ⟨rfl,fun _=>hn,fun a ha=>by rw[hn] at ha;cases ha⟩
  |false =>
   refine ⟨(tvar_nq hq).symm,fun e=>(by rw[tvar_nq hq] at e;cases e),fun a ha=>?_⟩;unfold typedD at h;cases hs:shapeD tvarB ds t with
   |none =>
    rw[hs] at h;simp only[Bool.not_eq_true',List.any_eq_false] at h;exact ⟨m,by simpa using h a ha⟩
   |some b =>
    rw[hs] at h;simp only at h;subst h
    have hnil:t.args=[]:=by
     unfold shapeD at hs;rw[tvar_nq hq] at hs;simp only[Bool.false_or] at hs
     revert hs
     cases h1:(t.name==[73,110,116]) with
     |true=>intro hs;simp only[if_true,Option.some.injEq] at hs;exact len0.1 hs
     |false =>
      intro hs;exfalso;simp only[Bool.false_eq_true,if_false] at hs
      revert hs
      cases (t.name==[45,62]) <;> cases (((t.args.length:Nat):Int) != 2) <;> cases (t.name==[44]) <;> cases (decide (((t.args.length:Nat):Int) < 2)||decide (((t.args.length:Nat):Int) > 4)) <;> cases (!(findD ds t.name).isSome||((((findD ds t.name).getD zeroDa).vars.length:Nat):Int) != ((t.args.length:Nat):Int)) <;> simp
    rw[hnil] at ha;cases ha
theorem hasV_same {ds:List DaD} (hQ:∀ d∈ds,qB d.name=false):∀ (t:TyD) (m:Nat),typedD tvarB ds m t=true→hasVarD qB allB t=hasVarD tvarB allB t:=by
 refine TyD.ind fun t ih m h=>?_
 obtain ⟨h1,_,h3⟩:=ty_sub hQ m t h;rw[hasVarD_eq,hasVarD_eq,h1];congr 1;rw[Bool.eq_iff_iff,List.any_eq_true,List.any_eq_true];constructor
 ·rintro ⟨a,ha,e⟩
  obtain ⟨m',h'⟩:=h3 a ha;exact ⟨a,ha,by rw[←ih a ha m' h'];exact e⟩
 ·rintro ⟨a,ha,e⟩
  obtain ⟨m',h'⟩:=h3 a ha;exact ⟨a,ha,by rw[ih a ha m' h'];exact e⟩
theorem grows_same {ds:List DaD} (hQ:∀ d∈ds,qB d.name=false):∀ (t:TyD) (m:Nat),typedD tvarB ds m t=true→growsR t=growsD tvarB t:=by
 refine TyD.ind fun t ih m h=>?_
 obtain ⟨h1,h2,h3⟩:=ty_sub hQ m t h;rw[growsR_eq,growsD_eq];cases ht:tvarB t.name with
 |true=>rw[h2 ht];rfl
 |false =>
  simp only[Bool.not_false,Bool.true_and];rw[Bool.eq_iff_iff,List.any_eq_true,List.any_eq_true]
  have key:∀ a∈t.args,((!(t.name==[45,62])&&!(t.name==[44])&&(!qB a.name&&hasVarD qB allB a)||growsR a)=(!(t.name==[45,62])&&!(t.name==[44])&&!tvarB a.name&&hasVarD tvarB (fun _=>true) a||growsD tvarB a)):=fun a ha=>by
   obtain ⟨m',h'⟩:=h3 a ha;rw[ih a ha m' h',hasV_same hQ a m' h',(ty_sub hQ m' a h').1,Bool.and_assoc _ (!tvarB a.name)]
  constructor
  ·rintro ⟨a,ha,e⟩;exact ⟨a,ha,by rw[←key a ha];exact e⟩
  ·rintro ⟨a,ha,e⟩;exact ⟨a,ha,by rw[key a ha];exact e⟩
theorem arg_same {ds:List DaD} (hQ:∀ d∈ds,qB d.name=false) (d:DaD) (x:TyD):okT tvarB ds d x=!argBad ds d.vars x:=by
 unfold okT argBad freeD;rw[ty_same hQ d.vars false 100 x];cases h:typedD tvarB ds 100 x with
 |false=>rfl
 |true =>
  rw[grows_same hQ x 100 h];simp only[Bool.not_true,Bool.false_or,Bool.not_false,Bool.true_and];rw[Bool.not_or]
end Go.Proofs.YtkmnkiekmlcfdaaGreatDoor
end
section
namespace Go.Proofs.YtkmnkiekmlcfdaaGreatDoor
open Go.AM
set_option maxRecDepth 100000
def distN:List (List UInt8)→List (List UInt8)→Bool
 |_,[]=>true
 |N,y::ys=>(!N.any fun z=>z==y)&&distN (N++[y]) ys
theorem distN_app (a b:List (List UInt8)):∀ N:List (List UInt8),distN N (a++b)=(distN N a&&distN (N++a) b):=by
 induction a with
 |nil=>intro N;simp [distN]
 |cons y a ih =>
  intro N;simp only[List.cons_append,distN,ih,Bool.and_assoc,List.append_assoc,List.nil_append]
theorem distN_same (l:List (List UInt8)):∀ (S N:List (List UInt8)),(∀ x,x∈S↔x∈N)→diffL S l=distN N l:=by
 induction l with
 |nil=>intro S N _;rfl
 |cons y l ih =>
  intro S N h;unfold diffL distN
  have h1:S.contains y=N.any fun z=>z==y:=by
   rw[Bool.eq_iff_iff,List.any_eq_true,List.contains_iff_mem];constructor
   ·intro e;exact ⟨y,(h y).1 e,by simp⟩
   ·rintro ⟨z,hz,e⟩
    have:z=y:=by simpa using e
    subst this;exact (h z).2 hz
  rw[h1];cases hc:N.any (fun z=>z==y) with
  |true=>rfl
  |false =>
   rw[ih (addS S y) (N++[y])];intro x;unfold addS;split
   ·rename_i hm
    rw[h1,hc] at hm;cases hm
   ·simp only[List.mem_append,List.mem_singleton,h x]
theorem vars_same (l:List (List UInt8)):∀ pre:List (List UInt8),varsBad pre l=!(l.all tvarB&&distN pre l):=by
 induction l with
 |nil=>intro pre;rfl
 |cons y l ih =>
  intro pre;unfold varsBad distN;rw[ih,List.all_cons];cases tvarB y <;> cases pre.any (fun z=>z==y) <;> cases l.all tvarB <;> simp
def okRC (c:CoD):Bool:=wordB 65 90 c.name&&!decide (((c.args.length:Nat):Int) > 16)
theorem cons_same (l:List CoD):∀ C:List (List UInt8),consBad C l=!(l.all okRC&&distN C (l.map CoD.name)):=by
 induction l with
 |nil=>intro C;rfl
 |cons y l ih =>
  intro C;simp only[consBad,List.map_cons,distN,List.all_cons,ih,conBad,okRC];cases wordB 65 90 y.name <;> cases C.any (fun z=>z==y.name) <;> cases decide (((y.args.length:Nat):Int) > 16) <;> cases l.all okRC <;> simp
def okR (d:DaD):Bool:=wordB 65 90 d.name&&(decide (((d.cons.length:Nat):Int)≥1)&&decide (((d.cons.length:Nat):Int)≤16))&&!decide (((d.vars.length:Nat):Int) > 16)&&(d.vars.all tvarB&&distN [] d.vars)&&d.cons.all okRC
theorem dat_same (l:List DaD):∀ N C:List (List UInt8),datBad N C l=!(l.all okR&&distN N (l.map DaD.name)&&distN C (conNames l)):=by
 induction l with
 |nil=>intro N C;rfl
 |cons y l ih =>
  intro N C;simp only[datBad,conNames,List.map_cons,distN,List.all_cons,ih,datBad1,okR,vars_same,cons_same,distN_app];cases wordB 65 90 y.name <;> cases N.any (fun z=>z==y.name) <;> cases (decide (((y.cons.length:Nat):Int)≥1)&&decide (((y.cons.length:Nat):Int)≤16)) <;> cases decide (((y.vars.length:Nat):Int) > 16) <;> cases (y.vars.all tvarB&&distN [] y.vars) <;> cases y.cons.all okRC <;> cases distN C (y.cons.map CoD.name) <;> cases l.all okR <;> cases distN (N++[y.name]) (l.map DaD.name) <;> rfl
theorem okD_same (d:DaD):(okD tvarB d&&(wordB 65 90 d.name&&d.cons.all fun c=>wordB 65 90 c.name))=okR d:=by
 unfold okD badA okR diffD;rw[List.foldl_nil,distN_same d.vars [] [] (fun x=>Iff.rfl)];have h1:decide (((d.cons.length:Nat):Int) < 1)=!decide (((d.cons.length:Nat):Int)≥1):=by rw[Bool.eq_iff_iff];simp
 have h2:decide (((d.cons.length:Nat):Int) > 16)=!decide (((d.cons.length:Nat):Int)≤16):=by rw[Bool.eq_iff_iff];simp
 have h3:(d.vars.any fun s=>!tvarB s)=!d.vars.all tvarB:=by rw[←List.not_all_eq_any_not]
 have h4:(d.cons.all okRC)=((d.cons.all fun c=>wordB 65 90 c.name)&&d.cons.all okC):=by
  induction d.cons with
  |nil=>rfl
  |cons c l ih =>
   simp only[List.all_cons,ih,okRC,okC];cases wordB 65 90 c.name <;> cases decide (((c.args.length:Nat):Int) > 16) <;> cases (l.all fun c=>wordB 65 90 c.name) <;> rfl
 rw[h1,h2,h3,h4];cases decide (((d.cons.length:Nat):Int)≥1) <;> cases decide (((d.cons.length:Nat):Int)≤16) <;> cases decide (((d.vars.length:Nat):Int) > 16) <;> cases distN [] d.vars <;> cases d.vars.all tvarB <;> cases d.cons.all okC <;> cases wordB 65 90 d.name <;> cases (d.cons.all fun c=>wordB 65 90 c.name) <;> rfl
theorem names_all (cn:List UInt8→Bool):∀ l:List DaD,(!((l.map DaD.name).any fun s=>!cn s)&&!((conNames l).any fun s=>!cn s))=l.all fun d=>cn d.name&&d.cons.all fun c=>cn c.name
 |[]=>rfl
 |d::l=>by
  have ih:=names_all cn l
  have h:((d.cons.map CoD.name).any fun s=>!cn s)=!d.cons.all fun c=>cn c.name:=by
   rw[List.any_map,List.not_all_eq_any_not];rfl
  simp only[List.map_cons,List.any_cons,conNames,List.any_append,List.all_cons,←ih,h];cases cn d.name <;> cases (d.cons.all fun c=>cn c.name) <;> cases ((l.map DaD.name).any fun s=>!cn s) <;> rfl
theorem word_q {s:List UInt8} (h:wordB 65 90 s=true):qB s=false:=by
 rw[wordB_eq] at h;simp only[Bool.and_eq_true,decide_eq_true_eq] at h;unfold qB;rw[beq_eq_false_iff_ne];omega
theorem all_and {α:Type} (p q:α→Bool):∀ l:List α,(l.all fun x=>p x&&q x)=(l.all p&&l.all q)
 |[]=>rfl
 |x::l=>by
  simp only[List.all_cons,all_and p q l];cases p x <;> cases q x <;> cases l.all p <;> rfl
theorem decl_same (ds:List DaD):declD tvarB (wordB 65 90) ds=(chkDR ds==0):=by
 have hd:distN [[73,110,116],[66,111,111,108]] (ds.map DaD.name)=diffD (ds.map DaD.name) [[73,110,116],[66,111,111,108]]:=by
  unfold diffD;exact (distN_same _ _ _ (fun x=>by show x∈[[73,110,116],[66,111,111,108]]↔_;exact Iff.rfl)).symm
 have hc:distN [[70,97,108,115,101],[84,114,117,101]] (conNames ds)=diffD (conNames ds) [[70,97,108,115,101],[84,114,117,101]]:=by
  unfold diffD;exact (distN_same _ _ _ (fun x=>by show x∈[[70,97,108,115,101],[84,114,117,101]]↔_;exact Iff.rfl)).symm
 have hr:ds.all okR=(ds.all (okD tvarB)&&ds.all fun d=>wordB 65 90 d.name&&d.cons.all fun c=>wordB 65 90 c.name):=by
  rw[←all_and];congr 1;funext d;exact (okD_same d).symm
 unfold declD chkDR badN;rw[dat_same,hd,hc,hr,←names_all];cases decide (((ds.length:Nat):Int) > 60) with
 |true=>rfl
 |false =>
  simp only[cond_false,Bool.not_false,Bool.true_and];cases h1:ds.all (okD tvarB) with
  |false=>rfl
  |true =>
  cases h2:(ds.map DaD.name).any fun s=>!wordB 65 90 s with
  |true=>rfl
  |false =>
  cases h3:(conNames ds).any fun s=>!wordB 65 90 s with
  |true=>rfl
  |false =>
  cases h4:diffD (ds.map DaD.name) [[73,110,116],[66,111,111,108]] with
  |false=>rfl
  |true =>
  cases h5:diffD (conNames ds) [[70,97,108,115,101],[84,114,117,101]] with
  |false=>rfl
  |true =>
   have hQ:∀ d∈ds,qB d.name=false:=fun d hd=>by
    refine word_q ?_;rw[List.any_eq_false] at h2
    have:=h2 d.name (List.mem_map.2 ⟨d,hd,rfl⟩)
    simpa using this
   have ha:(ds.all fun d=>d.cons.all fun c=>c.args.all (okT tvarB ds d))=!ds.any (datArgs ds):=by
    rw[List.all_eq_not_any_not];congr 2;funext d;unfold datArgs
    suffices hs:(d.cons.all fun c=>c.args.all (okT tvarB ds d))=!(d.cons.any fun c=>c.args.any (argBad ds d.vars)) by rw[hs,Bool.not_not]
    rw[Bool.eq_iff_iff];simp only[Bool.not_eq_true',List.any_eq_false,List.all_eq_true];constructor
    ·intro h c hc hh
     rw[List.any_eq_true] at hh;obtain ⟨x,hx,e⟩:=hh
     have:=h c hc x hx
     rw[arg_same hQ,e] at this;cases this
    ·intro h c hc x hx
     have:=h c hc
     rw[arg_same hQ];simp only[Bool.not_eq_true',←Bool.not_eq_true];intro e;exact this (by rw[List.any_eq_true];exact ⟨x,hx,e⟩)
   rw[ha];cases ds.any (datArgs ds) <;> rfl
theorem chkT_same (ds:List DaD) (t:TyD):chkT tvarB (wordB 65 90) ds t=(chkTR ds t==0):=by
 unfold chkT chkTR;rw[decl_same];cases hd:(chkDR ds==0) with
 |false =>
  have:(chkDR ds != 0)=true:=by simp only[bne,hd,Bool.not_false]
  rw[this];rfl
 |true =>
  have hn:(chkDR ds != 0)=false:=by simp only[bne,hd,Bool.not_true]
  have hQ:∀ d∈ds,qB d.name=false:=fun d hm=>by
   have h1:datBad [[73,110,116],[66,111,111,108]] [[70,97,108,115,101],[84,114,117,101]] ds=false:=by
    cases h1:datBad [[73,110,116],[66,111,111,108]] [[70,97,108,115,101],[84,114,117,101]] ds with
    |false=>rfl
    |true =>
     exfalso;unfold chkDR at hd;rw[h1] at hd;cases h0:decide (((ds.length:Nat):Int) > 60) <;> rw[h0] at hd <;> cases hd
   rw[dat_same] at h1;simp only[Bool.not_eq_false',Bool.and_eq_true] at h1
   have:=List.all_eq_true.1 h1.1.1 d hm
   unfold okR at this;simp only[Bool.and_eq_true] at this;exact word_q this.1.1.1.1
  rw[hn,ty_same hQ [] true 100 t];cases typedD tvarB ds 100 t <;> rfl
end Go.Proofs.YtkmnkiekmlcfdaaGreatDoor
end
section
namespace Go.Proofs.YtkmnkiekmlcfdaaGreatDoor
open Go.AM
set_option maxRecDepth 100000
mutual
def totR:PaD→Nat
 |.mk _ _ l=>1+totRs l
def totRs:List PaD→Nat
 |[]=>0
 |a::l=>totR a+totRs l
end
theorem totR_eq (p:PaD):totR p=1+totRs p.args:=by cases p;rfl
mutual
theorem countR_tot:∀ (p:PaD) (most:Int),0≤most→(countR p most > most∧(totR p:Int) > most)∨(countR p most=totR p∧(totR p:Int)≤most)
 |.mk _ _ l,most,h=>by
  have:=countRs_tot l most 1 h (by omega)
  simp only[countR,totR];rcases this with ⟨h1,h2⟩|⟨h1,h2⟩
  ·exact .inl ⟨h1,by omega⟩
  ·exact .inr ⟨by omega,by omega⟩
theorem countRs_tot:∀ (l:List PaD) (most n:Int),0≤most→0≤n→(countRs l most n > most∧n+(totRs l:Int) > most)∨(countRs l most n=n+totRs l∧n+(totRs l:Int)≤most)
 |[],most,n,h,h1=>by
  simp only[countRs,totRs];omega
 |a::l,most,n,h,h1=>by
  unfold countRs;simp only[totRs];cases hc:decide (n≤most) with
  |false =>
   rw[decide_eq_false_iff_not] at hc;simp only[cond_false];exact .inl ⟨by omega,by omega⟩
  |true =>
   rw[decide_eq_true_eq] at hc;simp only[cond_true];have h2:=countR_tot a (most - n) (by omega);have h3:=countRs_tot l most (n+countR a (most - n)) h (by rcases h2 with ⟨_,_⟩|⟨_,_⟩ <;> omega);omega
end
theorem cnt_tot:∀ (m:Nat) (l:List PaD),PaD.sizes l < m→∀ (most n:Nat),n≤most→(cnt most n l > most∧n+totRs l > most)∨(cnt most n l=n+totRs l∧n+totRs l≤most):=by
 intro m;induction m with
 |zero=>intro l h;omega
 |succ m ih =>
  intro l hl most n hn;cases l with
  |nil =>
   rw[cnt];simp only[totRs];omega
  |cons p ps =>
   have hs:p.size < PaD.sizes (p::ps)∧PaD.sizes ps < PaD.sizes (p::ps):=by simp only[PaD.sizes];omega
   have hsa:PaD.sizes p.args < p.size:=by cases p;simp only[PaD.args,PaD.size];omega
   rw[cnt];simp only[totRs,totR_eq];by_cases h1:most < n+1
   ·rw[if_pos h1];omega
   ·rw[if_neg h1]
    have h2:=ih p.args (by omega) (most - (n+1)) 0 (by omega);generalize cnt (most - (n+1)) 0 p.args=c at *;by_cases h3:most < n+1+c
    ·rw[if_pos h3];omega
    ·rw[if_neg h3]
     have h4:=ih ps (by omega) most (n+1+c) (by omega);omega
theorem many_same (l:List PaD):manyD l=(decide (((l.length:Nat):Int) > 12)||decide (countRs l 120 0 > 120)):=by
 unfold manyD;congr 1;have h1:=cnt_tot _ l (Nat.lt_succ_self _) 120 0 (by omega);have h2:=countRs_tot l 120 0 (by omega) (by omega);rw[Bool.eq_iff_iff,decide_eq_true_eq,decide_eq_true_eq];omega
theorem twice_dist (l:List (List UInt8)):∀ pre,twiceR pre l=!distN pre l:=by
 induction l with
 |nil=>intro pre;rfl
 |cons y l ih =>
  intro pre;unfold twiceR distN;rw[ih];cases pre.any (fun z=>z==y) <;> simp
theorem chkPR_cases (ds:List DaD) (t:TyD) (p:PaD) (h:(slotsD 100 p []).map Prod.fst=varsR p∨deepD 100 p=true∨formedD nameB ds t p=false):validD nameB ds t p=chkPR ds t p:=by
 unfold validD chkPR;cases h1:deepD 100 p with
 |true=>rfl
 |false =>
  cases h2:formedD nameB ds t p with
  |false=>rfl
  |true =>
   rcases h with h|h|h
   ·rw[h,twice_dist,←distN_same (varsR p) [] [] (fun x=>Iff.rfl)]
    cases diffL [] (varsR p) <;> rfl
   ·rw[h1] at h;cases h
   ·rw[h2] at h;cases h
end Go.Proofs.YtkmnkiekmlcfdaaGreatDoor
end
section
namespace Go.Proofs.YtkmnkiekmlcfdaaGreatDoor
open Go.AM
set_option maxRecDepth 100000
theorem formedL_mem {nm:List UInt8→Bool} {ds:List DaD}:∀ (l:List PaD) (ts:List TyD),formedL nm ds ts l=true→∀ a∈l,∃ t,formedD nm ds t a=true
 |[],_,_,a,h=>by cases h
 |x::l,[],h,a,_=>by rw[formedL] at h;cases h
 |x::l,t::ts,h,a,ha=>by
  rw[formedL_cons,Bool.and_eq_true] at h;rcases List.mem_cons.1 ha with e|ha
  ·subst e;exact ⟨t,h.1⟩
  ·exact formedL_mem l ts h.2 a ha
theorem slotsL_map {n:Nat} {path:List Nat}:∀ (l:List PaD) (k:Nat),(∀ a∈l,∀ path,(slotsD n a path).map Prod.fst=varsR a)→(slotsL (slotsD n) path k l).map Prod.fst=varsRs l
 |[],_,_=>rfl
 |a::l,k,h=>by
  simp only[slotsL,varsRs,List.map_append];rw[h a (by simp),slotsL_map l (k+1) fun x hx=>h x (by simp [hx])]
theorem slots_vars {nm:List UInt8→Bool} {ds:List DaD}:∀ (n:Nat) (p:PaD) (t:TyD),deepD n p=false→formedD nm ds t p=true→∀ path,(slotsD n p path).map Prod.fst=varsR p:=by
 intro n;induction n with
 |zero=>intro p t h;cases h
 |succ n ih =>
  intro p t hd hf path;have hd':p.args.any (deepD n)=false:=hd;rw[formedD_eq] at hf;rw[varsR_eq];unfold slotsD
  have hnil:(((p.args.length:Nat):Int)==0)=true→p.args=[]:=fun e=>by
   rw[beq_iff_eq] at e;exact List.length_eq_zero_iff.1 (by omega)
  cases h1:(p.kind==1) with
  |true =>
   rw[h1] at hf;simp only[if_true,Bool.and_eq_true] at hf;have hk:p.kind=1:=by simpa using h1
   rw[hnil hf.2,hk];rfl
  |false =>
   rw[h1] at hf;simp only[Bool.false_eq_true,if_false] at hf;cases h2:(p.kind==2) with
   |true =>
    rw[h2] at hf;simp only[if_true,Bool.and_eq_true] at hf;rw[hnil hf.2];rfl
   |false =>
    rw[h2] at hf;simp only[Bool.false_eq_true,if_false] at hf;cases h3:(p.kind==3) with
    |false=>rw[h3] at hf;simp at hf
    |true =>
     rw[h3] at hf;simp only[if_true] at hf;simp only[Bool.false_eq_true,if_false,if_true,cond_false,List.nil_append];cases hc:(consD ds t).find? (fun c=>c.name==p.name) with
     |none=>rw[hc] at hf;cases hf
     |some c =>
      rw[hc] at hf;simp only at hf
      split at hf
      ·cases hf
      ·refine slotsL_map p.args 0 fun a ha path=>?_
       obtain ⟨t',ht⟩:=formedL_mem p.args c.args hf a ha;rw[List.any_eq_false] at hd';exact ih a t' (by simpa using hd' a ha) ht path
theorem valid_same (ds:List DaD) (t:TyD) (p:PaD):validD nameB ds t p=chkPR ds t p:=by
 refine chkPR_cases ds t p ?_;cases h1:deepD 100 p with
 |true=>exact .inr (.inl rfl)
 |false =>
  cases h2:formedD nameB ds t p with
  |false=>exact .inr (.inr rfl)
  |true=>exact .inl (slots_vars 100 p t h1 h2 [])
theorem chkPsL_same (ds:List DaD) (t:TyD):∀ l:List PaD,chkPsL nameB ds t l=firstR ds t l
 |[]=>rfl
 |p::l=>by
  unfold chkPsL firstR;rw[valid_same,chkPsL_same ds t l];cases deepD 60 p with
  |true=>rfl
  |false =>
   cases h:(chkPR ds t p != 0) <;> simp
theorem chkT_zero (ds:List DaD) (t:TyD):chkTR ds t=0∨chkTR ds t=55:=by
 unfold chkTR;cases (chkDR ds != 0)||nTyR ds [] true 100 t
 ·exact .inl rfl
 ·exact .inr rfl
theorem chkPs_same (ds:List DaD) (t:TyD) (l:List PaD):chkPs tvarB (wordB 65 90) nameB ds t l=chkPsR ds t l:=by
 unfold chkPs chkPsR;rw[chkT_same,many_same,chkPsL_same];rcases chkT_zero ds t with h|h <;> rw[h]
 ·simp only[show ((0:Int)==0)=true from rfl,show ((0:Int) != 0)=false from rfl,Bool.not_true,Bool.false_eq_true,if_false,cond_false]
  cases (decide (((l.length:Nat):Int) > 12)||decide (countRs l 120 0 > 120)) with
  |true=>rfl
  |false =>
   cases (((l.length:Nat):Int)==0) <;> rfl
 ·rfl
theorem kdF_fun:isK kdF 4=tvarB∧isK kdF 3=wordB 65 90∧isK kdF 2=nameB:=⟨funext kd_var,funext kd_con,funext kd_name⟩
end Go.Proofs.YtkmnkiekmlcfdaaGreatDoor
end
