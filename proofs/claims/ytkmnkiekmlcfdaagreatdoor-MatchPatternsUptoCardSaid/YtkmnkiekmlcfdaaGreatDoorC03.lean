/- Part C03 of the proof of one law of the program. -/
import Derived.Test.YtkmnkiekmlcfdaaGreatDoorC02
set_option linter.all false
namespace Go.Proofs.YtkmnkiekmlcfdaaGreatDoor
open Go.AM
set_option maxRecDepth 100000
set_option maxHeartbeats 4000000
theorem prefix_len {l p:List UInt8} (h:Lib.hasPrefix l p=true):p.length≤l.length:=by
 exact (List.isPrefixOf_iff_prefix.1 h).length_le
def signL:List UInt8:=[40,41,44,59,58,124,61,60,43,45,42,47,37,95]
theorem peek_byte (s:List UInt8) (i:Nat):0≤peekN s i∧peekN s i < 256:=by
 unfold peekN;cases s[i]? with
 |none=>exact ⟨Int.le_refl 0,by decide⟩
 |some b=>exact ⟨by simp,by have:=b.toNat_lt;show ((b.toNat:Nat):Int) < 256;omega⟩
theorem idx_fact {c:Int} (h0:0≤c) (h1:c < 256) (sto:Sto):CL (.fn 196) [.val (.str [40,41,44,59,58,124,61,60,43,45,42,47,37,95]),.val (.int .u8 c)] sto=some (.ret (.val (.int .i64 (Lib.indexByte signL c.toNat.toUInt8))),sto):=by
 refine fnP (r:=.ret (.val (.int .i64 (Lib.indexByte signL c.toNat.toUInt8)))) ?_ rfl;have h:(decide (0≤c)&&decide (c < 256))=true:=by simp [h0,h1]
 simp only[prL,show Nat.beq 196 196=true from rfl,cond_true,h];rfl
theorem part_of_small {c:Int} (h:smallI c=true):partI c=true:=by simp [partI,h]
theorem part_of_great {c:Int} (h:greatI c=true):partI c=true:=by simp [partI,h]
def varN (s:List UInt8) (at_:Nat):Nat:=1+runN partI s (at_+1)
def varT (s:List UInt8) (at_:Nat):List UInt8:=(s.take (at_+varN s at_)).drop at_
structure TokQ (s:List UInt8) (at_:Nat) (kd:Int) (txt:List UInt8):Prop where
 small:smallI (peekN s at_)=true→txt=nameT s at_∧kd=bif wordL.contains txt then 5 else 2
 great:smallI (peekN s at_)=false→greatI (peekN s at_)=true→txt=nameT s at_∧kd=bif wordL.contains txt then 5 else 3
 var:(peekN s at_==39)=true→smallI (peekN s (at_+1))=true→txt=varT s at_∧kd=4
 other:smallI (peekN s at_)=false→greatI (peekN s at_)=false→((peekN s at_==39)=false∨smallI (peekN s (at_+1))=false)→kd=1∨kd=6
structure TokR (s:List UInt8) (at_:Nat):Prop where
 small:smallI (peekN s at_)=true→24 < nameN s at_
 great:greatI (peekN s at_)=true→24 < nameN s at_
 var:(peekN s at_==39)=true→smallI (peekN s (at_+1))=true→24 < varN s at_
theorem no39 {c:Int} (h:(c==39)=true):smallI c=false∧greatI c=false∧digI c=false∧(c==126)=false:=by
 have:c=39:=by simpa using h
 subst this;exact ⟨by decide,by decide,by decide,by decide⟩
theorem noDig {c:Int} (h:(digI c||c==126)=true):smallI c=false∧greatI c=false∧(c==39)=false:=by
 simp only[digI,smallI,greatI,Bool.or_eq_true,Bool.and_eq_true,decide_eq_true_eq,beq_iff_eq,Bool.and_eq_false_iff,decide_eq_false_iff_not,beq_eq_false_iff_ne,ne_eq] at h ⊢;omega
theorem noSmall {c:Int} (h:smallI c=true):greatI c=false∧(c==39)=false:=by
 simp only[smallI,greatI,Bool.and_eq_true,decide_eq_true_eq,Bool.and_eq_false_iff,decide_eq_false_iff_not,beq_eq_false_iff_ne,ne_eq] at h ⊢;omega
theorem noGreat {c:Int} (h:greatI c=true):smallI c=false∧(c==39)=false:=by
 simp only[smallI,greatI,Bool.and_eq_true,decide_eq_true_eq,Bool.and_eq_false_iff,decide_eq_false_iff_not,beq_eq_false_iff_ne,ne_eq] at h ⊢;omega
theorem tokQ_num {s:List UInt8} {at_:Nat} {kd:Int} {txt:List UInt8} (h:(digI (peekN s at_)||peekN s at_==126)=true) (hk:kd=1):TokQ s at_ kd txt:=by
 obtain ⟨h1,h2,h3⟩:=noDig h;exact ⟨fun e=>(by rw[h1] at e;cases e),fun _ e=>(by rw[h2] at e;cases e),fun e=>(by rw[h3] at e;cases e),fun _ _ _=>.inl hk⟩
theorem tokR_num {s:List UInt8} {at_:Nat} (h:(digI (peekN s at_)||peekN s at_==126)=true):TokR s at_:=by
 obtain ⟨h1,h2,h3⟩:=noDig h;exact ⟨fun e=>(by rw[h1] at e;cases e),fun e=>(by rw[h2] at e;cases e),fun e=>(by rw[h3] at e;cases e)⟩
theorem tokQ_small {s:List UInt8} {at_:Nat} {kd:Int} {txt:List UInt8} (h:smallI (peekN s at_)=true) (hq:txt=nameT s at_∧kd=bif wordL.contains txt then 5 else 2):TokQ s at_ kd txt:=by
 obtain ⟨h1,h2⟩:=noSmall h;exact ⟨fun _=>hq,fun e=>(by rw[h] at e;cases e),fun e=>(by rw[h2] at e;cases e),fun e=>(by rw[h] at e;cases e)⟩
theorem tokR_small {s:List UInt8} {at_:Nat} (h:smallI (peekN s at_)=true) (hq:24 < nameN s at_):TokR s at_:=by
 obtain ⟨h1,h2⟩:=noSmall h;exact ⟨fun _=>hq,fun _=>hq,fun e=>(by rw[h2] at e;cases e)⟩
theorem tokQ_great {s:List UInt8} {at_:Nat} {kd:Int} {txt:List UInt8} (h:greatI (peekN s at_)=true) (hq:txt=nameT s at_∧kd=bif wordL.contains txt then 5 else 3):TokQ s at_ kd txt:=by
 obtain ⟨h1,h2⟩:=noGreat h;exact ⟨fun e=>(by rw[h1] at e;cases e),fun _ _=>hq,fun e=>(by rw[h2] at e;cases e),fun _ e=>(by rw[h] at e;cases e)⟩
theorem tokR_great {s:List UInt8} {at_:Nat} (h:greatI (peekN s at_)=true) (hq:24 < nameN s at_):TokR s at_:=by
 obtain ⟨h1,h2⟩:=noGreat h;exact ⟨fun _=>hq,fun _=>hq,fun e=>(by rw[h2] at e;cases e)⟩
theorem tokQ_rest {s:List UInt8} {at_:Nat} {kd:Int} {txt:List UInt8} (h1:smallI (peekN s at_)=false) (h2:greatI (peekN s at_)=false) (h3:(peekN s at_==39)=false∨smallI (peekN s (at_+1))=false) (hq:kd=6):TokQ s at_ kd txt :=
 ⟨fun e=>(by rw[h1] at e;cases e),fun _ e=>(by rw[h2] at e;cases e),fun e e'=>(by rcases h3 with h3|h3 <;> simp_all),fun _ _ _=>.inr hq⟩
theorem tokR_rest {s:List UInt8} {at_:Nat} (h1:smallI (peekN s at_)=false) (h2:greatI (peekN s at_)=false) (h3:(peekN s at_==39)=false∨smallI (peekN s (at_+1))=false):TokR s at_ :=
 ⟨fun e=>(by rw[h1] at e;cases e),fun e=>(by rw[h2] at e;cases e),fun e e'=>(by rcases h3 with h3|h3 <;> simp_all)⟩
theorem tokQ_var {s:List UInt8} {at_:Nat} {kd:Int} {txt:List UInt8} (h:(peekN s at_==39)=true) (h':smallI (peekN s (at_+1))=true) (hq:txt=varT s at_∧kd=4):TokQ s at_ kd txt:=by
 obtain ⟨h1,h2,_⟩:=no39 h;exact ⟨fun e=>(by rw[h1] at e;cases e),fun _ e=>(by rw[h2] at e;cases e),fun _ _=>hq,fun _ _ e=>(by rcases e with e|e <;> simp_all)⟩
theorem tokR_var {s:List UInt8} {at_:Nat} (h:(peekN s at_==39)=true) (hq:24 < varN s at_):TokR s at_:=by
 obtain ⟨h1,h2,_⟩:=no39 h;exact ⟨fun e=>(by rw[h1] at e;cases e),fun e=>(by rw[h2] at e;cases e),fun _ _=>hq⟩
theorem c181 {A B:AObj} {rest:List AObj} {lo:Nat} {c4:Cell} (s:List UInt8) (at_:Nat) (h1:at_ < s.length) (h2:s.length < 1000) :
  TokOr (CL (.fn 181) [.val (.loc 3 0)] ⟨A::B::.map wordM::sb s at_ (.val (.amap 2)) c4::rest,lo⟩) s at_ ⟨A::B::.map wordM::sb s at_ (.val (.amap 2)) c4::rest,lo⟩ (TokQ s at_) (TokR s at_):=by
 have g195:(ans 195).ownArg=[]:=by rw[an195]
 have h188:=c188 (A:=A) (B:=B) (C:=.map wordM) (rest:=rest) (lo:=lo) (c3:=.val (.amap 2)) (c4:=c4) s at_ 0 0 rfl (by omega);rw[Nat.add_zero] at h188;have hb:=peek_byte s at_;have h189:=c189 (peekN s at_);have h191:=c191 (peekN s at_);have h193:=c193 (peekN s at_);have h196:=fun sto=>idx_fact hb.1 hb.2 sto
 have h190t:=c190t (A:=A) (B:=B) (C:=.map wordM) (rest:=rest) (lo:=lo) (c3:=.val (.amap 2)) (c4:=c4) s at_ h1 h2;have h190f:=c190f (A:=A) (B:=B) (C:=.map wordM) (rest:=rest) (lo:=lo) (c3:=.val (.amap 2)) (c4:=c4) s at_ h1 h2;have h192:=fun k=>c192 (A:=A) (B:=B) (rest:=rest) (lo:=lo) (c4:=c4) s at_ k h1 h2
 have h186:=fun p=>c186 (A:=A) (B:=B) (C:=.map wordM) (rest:=rest) (lo:=lo) (c3:=.val (.amap 2)) (c4:=c4) s p at_ (by omega)
 have h194:=fun n kind K (hK:K=((n:Nat):Int)) (hn:at_+n≤s.length) (hp:0 < n)=>made_or (A:=A) (B:=B) (C:=.map wordM) (rest:=rest) (lo:=lo) (c3:=.val (.amap 2)) (c4:=c4) s at_ n kind K hK hn (by omega) hp
 have h188b:=c188 (A:=A) (B:=B) (C:=.map wordM) (rest:=rest) (lo:=lo) (c3:=.val (.amap 2)) (c4:=c4) s at_ 1 1 rfl (by omega);have h191b:=c191 (peekN s (at_+1));have h184:=c184 (A:=A) (B:=B) (C:=.map wordM) (rest:=rest) (lo:=lo) (c3:=.val (.amap 2)) (c4:=c4) 195 g195 partI c195 s at_ 1 1 rfl (by omega);have hd1:=runN_le partI s (at_+1);generalize hd:runN partI s (at_+1)=d at *;have hw1:IntKind.i64.wrap (1+(d:Int))=((1+d:Nat):Int):=by rw[wrapOk (by omega) (by omega)];omega
 have hs1:peekN s (at_+1)≠0→at_+1 < s.length:=peekN_pos s (at_+1);have hpre:=fun p=>prefix_len (l:=s.drop at_) (p:=p)
 simp only[List.length_drop] at hpre;generalize hcc:peekN s at_=c at *;generalize hcn:peekN s (at_+1)=c1 at *;rw[sbE] at h188 h188b h184 h190t h190f ⊢;simp only[sbE] at h192 h186 h194;cases e1:digI c with
 |true =>
  cases e2:(c==126) with
  |true =>
   rcases h190t e2 with ⟨kd,num,txt,hm,ht1,ht2,hq⟩|⟨a,e,hm,hq⟩
   ·
    rw[tokE] at hm;refine .inl ⟨kd,num,txt,?_,ht1,ht2,tokQ_num (by rw[hcc];simp [e1,e2]) hq⟩;rw[tokE];apply tA;rfl;rfl;exact Tryz.func181;rfl;rfl;simp only[go_sem];rfl;refine tQ ?_;repeat first|with_reducible constructor|(with_reducible apply tG);kernel_rfl;intro _ _;(repeat apply tOp;intro _;simp only[h188,h189,h191,h193,hm,go_sem];rfl);rfl;simp only[go_sem];rfl|(with_reducible apply t1);rfl;first|rfl|assumption
    exact fin0 rfl
   ·
    rw[wrongE] at hm;refine .inr ⟨a,e,?_,tokR_num (by rw[hcc];simp [e1,e2])⟩;rw[wrongE];apply tA;rfl;rfl;exact Tryz.func181;rfl;rfl;simp only[go_sem];rfl;refine tQ ?_;repeat first|with_reducible constructor|(with_reducible apply tG);kernel_rfl;intro _ _;(repeat apply tOp;intro _;simp only[h188,h189,h191,h193,hm,go_sem];rfl);rfl;simp only[go_sem];rfl|(with_reducible apply t1);rfl;first|rfl|assumption
    ((with_reducible apply tP);(focus (intro _ _;(repeat (apply tOp;(focus (intro _;simp only[h188,h189,h191,h193,hm,go_sem];rfl))));apply tOpP;simp only[h188,h189,h191,h193,hm,go_sem];rfl)))
    repeat first|with_reducible apply tsP|with_reducible apply tbP
    rfl
  |false =>
   rcases h190f e2 e1 with ⟨kd,num,txt,hm,ht1,ht2,hq⟩|⟨a,e,hm,hq⟩
   ·
    rw[tokE] at hm;refine .inl ⟨kd,num,txt,?_,ht1,ht2,tokQ_num (by rw[hcc];simp [e1,e2]) hq⟩;rw[tokE];apply tA;rfl;rfl;exact Tryz.func181;rfl;rfl;simp only[go_sem];rfl;refine tQ ?_;repeat first|with_reducible constructor|(with_reducible apply tG);kernel_rfl;intro _ _;(repeat apply tOp;intro _;simp only[h188,h189,h191,h193,hm,go_sem];rfl);rfl;simp only[go_sem];rfl|(with_reducible apply t1);rfl;first|rfl|assumption
    exact fin0 rfl
   ·
    rw[wrongE] at hm;refine .inr ⟨a,e,?_,tokR_num (by rw[hcc];simp [e1,e2])⟩;rw[wrongE];apply tA;rfl;rfl;exact Tryz.func181;rfl;rfl;simp only[go_sem];rfl;refine tQ ?_;repeat first|with_reducible constructor|(with_reducible apply tG);kernel_rfl;intro _ _;(repeat apply tOp;intro _;simp only[h188,h189,h191,h193,hm,go_sem];rfl);rfl;simp only[go_sem];rfl|(with_reducible apply t1);rfl;first|rfl|assumption
    ((with_reducible apply tP);(focus (intro _ _;(repeat (apply tOp;(focus (intro _;simp only[h188,h189,h191,h193,hm,go_sem];rfl))));apply tOpP;simp only[h188,h189,h191,h193,hm,go_sem];rfl)))
    repeat first|with_reducible apply tsP|with_reducible apply tbP
    rfl
 |false =>
 cases e2:(c==126) with
 |true =>
  rcases h190t e2 with ⟨kd,num,txt,hm,ht1,ht2,hq⟩|⟨a,e,hm,hq⟩
  ·
   rw[tokE] at hm;refine .inl ⟨kd,num,txt,?_,ht1,ht2,tokQ_num (by rw[hcc];simp [e1,e2]) hq⟩;rw[tokE];apply tA;rfl;rfl;exact Tryz.func181;rfl;rfl;simp only[go_sem];rfl;refine tQ ?_;repeat first|with_reducible constructor|(with_reducible apply tG);kernel_rfl;intro _ _;(repeat apply tOp;intro _;simp only[h188,h189,h191,h193,hm,go_sem];rfl);rfl;simp only[go_sem];rfl|(with_reducible apply t1);rfl;(first|rfl|assumption)|(with_reducible apply t0);rfl;first|rfl|assumption
   exact fin0 rfl
  ·
   rw[wrongE] at hm;refine .inr ⟨a,e,?_,tokR_num (by rw[hcc];simp [e1,e2])⟩;rw[wrongE];apply tA;rfl;rfl;exact Tryz.func181;rfl;rfl;simp only[go_sem];rfl;refine tQ ?_;repeat first|with_reducible constructor|(with_reducible apply tG);kernel_rfl;intro _ _;(repeat apply tOp;intro _;simp only[h188,h189,h191,h193,hm,go_sem];rfl);rfl;simp only[go_sem];rfl|(with_reducible apply t1);rfl;(first|rfl|assumption)|(with_reducible apply t0);rfl;first|rfl|assumption
   ((with_reducible apply tP);(focus (intro _ _;(repeat (apply tOp;(focus (intro _;simp only[h188,h189,h191,h193,hm,go_sem];rfl))));apply tOpP;simp only[h188,h189,h191,h193,hm,go_sem];rfl)))
   repeat first|with_reducible apply tsP|with_reducible apply tbP
   rfl
 |false =>
 cases e3:smallI c with
 |true =>
  rcases h192 2 (part_of_small e3) with ⟨kd,num,txt,hm,ht1,ht2,hq⟩|⟨a,e,hm,hq⟩
  ·
   rw[tokE] at hm;refine .inl ⟨kd,num,txt,?_,ht1,ht2,tokQ_small (by rw[hcc];exact e3) hq⟩;rw[tokE];apply tA;rfl;rfl;exact Tryz.func181;rfl;rfl;simp only[go_sem];rfl;refine tQ ?_;repeat first|with_reducible constructor|(with_reducible apply tG);kernel_rfl;intro _ _;(repeat apply tOp;intro _;simp only[h188,h189,h191,h193,hm,go_sem];rfl);rfl;simp only[go_sem];rfl|(with_reducible apply t1);rfl;(first|rfl|assumption)|(with_reducible apply t0);rfl;first|rfl|assumption
   exact fin0 rfl
  ·
   rw[wrongE] at hm;refine .inr ⟨a,e,?_,tokR_small (by rw[hcc];exact e3) hq⟩;rw[wrongE];apply tA;rfl;rfl;exact Tryz.func181;rfl;rfl;simp only[go_sem];rfl;refine tQ ?_;repeat first|with_reducible constructor|(with_reducible apply tG);kernel_rfl;intro _ _;(repeat apply tOp;intro _;simp only[h188,h189,h191,h193,hm,go_sem];rfl);rfl;simp only[go_sem];rfl|(with_reducible apply t1);rfl;(first|rfl|assumption)|(with_reducible apply t0);rfl;first|rfl|assumption
   ((with_reducible apply tP);(focus (intro _ _;(repeat (apply tOp;(focus (intro _;simp only[h188,h189,h191,h193,hm,go_sem];rfl))));apply tOpP;simp only[h188,h189,h191,h193,hm,go_sem];rfl)))
   repeat first|with_reducible apply tsP|with_reducible apply tbP
   rfl
 |false =>
 cases e4:greatI c with
 |true =>
  rcases h192 3 (part_of_great e4) with ⟨kd,num,txt,hm,ht1,ht2,hq⟩|⟨a,e,hm,hq⟩
  ·
   rw[tokE] at hm;refine .inl ⟨kd,num,txt,?_,ht1,ht2,tokQ_great (by rw[hcc];exact e4) hq⟩;rw[tokE];apply tA;rfl;rfl;exact Tryz.func181;rfl;rfl;simp only[go_sem];rfl;refine tQ ?_;repeat first|with_reducible constructor|(with_reducible apply tG);kernel_rfl;intro _ _;(repeat apply tOp;intro _;simp only[h188,h189,h191,h193,hm,go_sem];rfl);rfl;simp only[go_sem];rfl|(with_reducible apply t1);rfl;(first|rfl|assumption)|(with_reducible apply t0);rfl;first|rfl|assumption
   exact fin0 rfl
  ·
   rw[wrongE] at hm;refine .inr ⟨a,e,?_,tokR_great (by rw[hcc];exact e4) hq⟩;rw[wrongE];apply tA;rfl;rfl;exact Tryz.func181;rfl;rfl;simp only[go_sem];rfl;refine tQ ?_;repeat first|with_reducible constructor|(with_reducible apply tG);kernel_rfl;intro _ _;(repeat apply tOp;intro _;simp only[h188,h189,h191,h193,hm,go_sem];rfl);rfl;simp only[go_sem];rfl|(with_reducible apply t1);rfl;(first|rfl|assumption)|(with_reducible apply t0);rfl;first|rfl|assumption
   ((with_reducible apply tP);(focus (intro _ _;(repeat (apply tOp;(focus (intro _;simp only[h188,h189,h191,h193,hm,go_sem];rfl))));apply tOpP;simp only[h188,h189,h191,h193,hm,go_sem];rfl)))
   repeat first|with_reducible apply tsP|with_reducible apply tbP
   rfl
 |false =>
 have rest_:∀ (qx:((c==39)=false)∨((c==39)=true∧smallI c1=false)),TokOr (CL (.fn 181) [.val (.loc 3 0)] ⟨A::B::.map wordM::.box [.val (.str s),.val (.int .i64 (at_:Nat)),.val (.amap 2),c4]::rest,lo⟩) s at_ ⟨A::B::.map wordM::.box [.val (.str s),.val (.int .i64 (at_:Nat)),.val (.amap 2),c4]::rest,lo⟩ (TokQ s at_) (TokR s at_):=by
  intro qx;have qy:(c==39)=false∨smallI c1=false:=qx.imp id And.right;rcases qx with e5|⟨e5,e6⟩
  ·
   cases e7:Lib.hasPrefix (s.drop at_) [61,62] with
   |true =>
    have h6:=h186 [61,62];have hl:=hpre _ e7;simp only[List.length_cons,List.length_nil] at hl;rcases h194 2 6 2 rfl (by omega) (by omega) with ⟨kd,num,txt,hm,ht1,ht2,hq⟩|⟨a,e,hm,hq⟩
    ·
     rw[tokE] at hm;refine .inl ⟨kd,num,txt,?_,ht1,ht2,tokQ_rest (by rw[hcc];exact e3) (by rw[hcc];exact e4) (by rw[hcc,hcn];exact qy) hq.1⟩;rw[tokE];apply tA;rfl;rfl;exact Tryz.func181;rfl;rfl;simp only[go_sem];rfl;refine tQ ?_;repeat first|with_reducible constructor|(with_reducible apply tG);kernel_rfl;intro _ _;(repeat apply tOp;intro _;simp only[h188,h189,h191,h193,e5,hm,h6,go_sem];rfl);rfl;simp only[go_sem];rfl|(with_reducible apply t1);rfl;(first|rfl|assumption)|(with_reducible apply t0);rfl;first|rfl|assumption
     exact fin0 rfl
    ·
     rw[wrongE] at hm;refine .inr ⟨a,e,?_,tokR_rest (by rw[hcc];exact e3) (by rw[hcc];exact e4) (by rw[hcc,hcn];exact qy)⟩;rw[wrongE];apply tA;rfl;rfl;exact Tryz.func181;rfl;rfl;simp only[go_sem];rfl;refine tQ ?_;repeat first|with_reducible constructor|(with_reducible apply tG);kernel_rfl;intro _ _;(repeat apply tOp;intro _;simp only[h188,h189,h191,h193,e5,hm,h6,go_sem];rfl);rfl;simp only[go_sem];rfl|(with_reducible apply t1);rfl;(first|rfl|assumption)|(with_reducible apply t0);rfl;first|rfl|assumption
     ((with_reducible apply tP);(focus (intro _ _;(repeat (apply tOp;(focus (intro _;simp only[h188,h189,h191,h193,e5,hm,h6,go_sem];rfl))));apply tOpP;simp only[h188,h189,h191,h193,e5,hm,h6,go_sem];rfl)))
     repeat first|with_reducible apply tsP|with_reducible apply tbP
     rfl
   |false =>
   have h6:=h186 [61,62];have h7:=h186 [45,62];cases e8:Lib.hasPrefix (s.drop at_) [45,62] with
   |true =>
    have hl:=hpre _ e8;simp only[List.length_cons,List.length_nil] at hl;rcases h194 2 6 2 rfl (by omega) (by omega) with ⟨kd,num,txt,hm,ht1,ht2,hq⟩|⟨a,e,hm,hq⟩
    ·
     rw[tokE] at hm;refine .inl ⟨kd,num,txt,?_,ht1,ht2,tokQ_rest (by rw[hcc];exact e3) (by rw[hcc];exact e4) (by rw[hcc,hcn];exact qy) hq.1⟩;rw[tokE];apply tA;rfl;rfl;exact Tryz.func181;rfl;rfl;simp only[go_sem];rfl;refine tQ ?_;repeat first|with_reducible constructor|(with_reducible apply tG);kernel_rfl;intro _ _;(repeat apply tOp;intro _;simp only[h188,h189,h191,h193,e5,hm,h6,h7,go_sem];rfl);rfl;simp only[go_sem];rfl|(with_reducible apply t1);rfl;(first|rfl|assumption)|(with_reducible apply t0);rfl;first|rfl|assumption
     exact fin0 rfl
    ·
     rw[wrongE] at hm;refine .inr ⟨a,e,?_,tokR_rest (by rw[hcc];exact e3) (by rw[hcc];exact e4) (by rw[hcc,hcn];exact qy)⟩;rw[wrongE];apply tA;rfl;rfl;exact Tryz.func181;rfl;rfl;simp only[go_sem];rfl;refine tQ ?_;repeat first|with_reducible constructor|(with_reducible apply tG);kernel_rfl;intro _ _;(repeat apply tOp;intro _;simp only[h188,h189,h191,h193,e5,hm,h6,h7,go_sem];rfl);rfl;simp only[go_sem];rfl|(with_reducible apply t1);rfl;(first|rfl|assumption)|(with_reducible apply t0);rfl;first|rfl|assumption
     ((with_reducible apply tP);(focus (intro _ _;(repeat (apply tOp;(focus (intro _;simp only[h188,h189,h191,h193,e5,hm,h6,h7,go_sem];rfl))));apply tOpP;simp only[h188,h189,h191,h193,e5,hm,h6,h7,go_sem];rfl)))
     repeat first|with_reducible apply tsP|with_reducible apply tbP
     rfl
   |false =>
   cases e9:decide (Lib.indexByte signL c.toNat.toUInt8≥0) with
   |true =>
    rcases h194 1 6 1 rfl (by omega) (by omega) with ⟨kd,num,txt,hm,ht1,ht2,hq⟩|⟨a,e,hm,hq⟩
    ·
     rw[tokE] at hm;refine .inl ⟨kd,num,txt,?_,ht1,ht2,tokQ_rest (by rw[hcc];exact e3) (by rw[hcc];exact e4) (by rw[hcc,hcn];exact qy) hq.1⟩;rw[tokE];apply tA;rfl;rfl;exact Tryz.func181;rfl;rfl;simp only[go_sem];rfl;refine tQ ?_;repeat first|with_reducible constructor|(with_reducible apply tG);kernel_rfl;intro _ _;(repeat apply tOp;intro _;simp only[h188,h189,h191,h193,e5,hm,h6,h7,h196,go_sem];rfl);rfl;simp only[go_sem];rfl|(with_reducible apply t1);rfl;(first|rfl|assumption)|(with_reducible apply t0);rfl;first|rfl|assumption
     exact fin0 rfl
    ·
     rw[wrongE] at hm;refine .inr ⟨a,e,?_,tokR_rest (by rw[hcc];exact e3) (by rw[hcc];exact e4) (by rw[hcc,hcn];exact qy)⟩;rw[wrongE];apply tA;rfl;rfl;exact Tryz.func181;rfl;rfl;simp only[go_sem];rfl;refine tQ ?_;repeat first|with_reducible constructor|(with_reducible apply tG);kernel_rfl;intro _ _;(repeat apply tOp;intro _;simp only[h188,h189,h191,h193,e5,hm,h6,h7,h196,go_sem];rfl);rfl;simp only[go_sem];rfl|(with_reducible apply t1);rfl;(first|rfl|assumption)|(with_reducible apply t0);rfl;first|rfl|assumption
     ((with_reducible apply tP);(focus (intro _ _;(repeat (apply tOp;(focus (intro _;simp only[h188,h189,h191,h193,e5,hm,h6,h7,h196,go_sem];rfl))));apply tOpP;simp only[h188,h189,h191,h193,e5,hm,h6,h7,h196,go_sem];rfl)))
     repeat first|with_reducible apply tsP|with_reducible apply tbP
     rfl
   |false =>
    refine .inr ⟨(at_:Nat),11,?_,tokR_rest (by rw[hcc];exact e3) (by rw[hcc];exact e4) (by rw[hcc,hcn];exact qy)⟩;rw[wrongE];apply tA;rfl;rfl;exact Tryz.func181;rfl;rfl;simp only[go_sem];rfl;refine tQ ?_;repeat first|with_reducible constructor|(with_reducible apply tG);kernel_rfl;intro _ _;(repeat apply tOp;intro _;simp only[h188,h189,h191,h193,e5,h6,h7,h196,go_sem];rfl);rfl;simp only[go_sem];rfl|(with_reducible apply t0);rfl;first|rfl|assumption
    ((with_reducible apply tP);(focus (intro _ _;(repeat (apply tOp;(focus (intro _;simp only[go_sem];rfl))));apply tOpP;simp only[go_sem];rfl)))
    repeat first|with_reducible apply tsP|with_reducible apply tbP
    rfl
  ·
   cases e7:Lib.hasPrefix (s.drop at_) [61,62] with
   |true =>
    have h6:=h186 [61,62];have hl:=hpre _ e7;simp only[List.length_cons,List.length_nil] at hl;rcases h194 2 6 2 rfl (by omega) (by omega) with ⟨kd,num,txt,hm,ht1,ht2,hq⟩|⟨a,e,hm,hq⟩
    ·
     rw[tokE] at hm;refine .inl ⟨kd,num,txt,?_,ht1,ht2,tokQ_rest (by rw[hcc];exact e3) (by rw[hcc];exact e4) (by rw[hcc,hcn];exact qy) hq.1⟩;rw[tokE];apply tA;rfl;rfl;exact Tryz.func181;rfl;rfl;simp only[go_sem];rfl;refine tQ ?_;repeat first|with_reducible constructor|(with_reducible apply tG);kernel_rfl;intro _ _;(repeat apply tOp;intro _;simp only[h188,h189,h191,h193,e5,h188b,h191b,e6,hm,h6,go_sem];rfl);rfl;simp only[go_sem];rfl|(with_reducible apply t1);rfl;(first|rfl|assumption)|(with_reducible apply t0);rfl;first|rfl|assumption
     exact fin0 rfl
    ·
     rw[wrongE] at hm;refine .inr ⟨a,e,?_,tokR_rest (by rw[hcc];exact e3) (by rw[hcc];exact e4) (by rw[hcc,hcn];exact qy)⟩;rw[wrongE];apply tA;rfl;rfl;exact Tryz.func181;rfl;rfl;simp only[go_sem];rfl;refine tQ ?_;repeat first|with_reducible constructor|(with_reducible apply tG);kernel_rfl;intro _ _;(repeat apply tOp;intro _;simp only[h188,h189,h191,h193,e5,h188b,h191b,e6,hm,h6,go_sem];rfl);rfl;simp only[go_sem];rfl|(with_reducible apply t1);rfl;(first|rfl|assumption)|(with_reducible apply t0);rfl;first|rfl|assumption
     ((with_reducible apply tP);(focus (intro _ _;(repeat (apply tOp;(focus (intro _;simp only[h188,h189,h191,h193,e5,h188b,h191b,e6,hm,h6,go_sem];rfl))));apply tOpP;simp only[h188,h189,h191,h193,e5,h188b,h191b,e6,hm,h6,go_sem];rfl)))
     repeat first|with_reducible apply tsP|with_reducible apply tbP
     rfl
   |false =>
   have h6:=h186 [61,62];have h7:=h186 [45,62];cases e8:Lib.hasPrefix (s.drop at_) [45,62] with
   |true =>
    have hl:=hpre _ e8;simp only[List.length_cons,List.length_nil] at hl;rcases h194 2 6 2 rfl (by omega) (by omega) with ⟨kd,num,txt,hm,ht1,ht2,hq⟩|⟨a,e,hm,hq⟩
    ·
     rw[tokE] at hm;refine .inl ⟨kd,num,txt,?_,ht1,ht2,tokQ_rest (by rw[hcc];exact e3) (by rw[hcc];exact e4) (by rw[hcc,hcn];exact qy) hq.1⟩;rw[tokE];apply tA;rfl;rfl;exact Tryz.func181;rfl;rfl;simp only[go_sem];rfl;refine tQ ?_;repeat first|with_reducible constructor|(with_reducible apply tG);kernel_rfl;intro _ _;(repeat apply tOp;intro _;simp only[h188,h189,h191,h193,e5,h188b,h191b,e6,hm,h6,h7,go_sem];rfl);rfl;simp only[go_sem];rfl|(with_reducible apply t1);rfl;(first|rfl|assumption)|(with_reducible apply t0);rfl;first|rfl|assumption
     exact fin0 rfl
    ·
     rw[wrongE] at hm;refine .inr ⟨a,e,?_,tokR_rest (by rw[hcc];exact e3) (by rw[hcc];exact e4) (by rw[hcc,hcn];exact qy)⟩;rw[wrongE];apply tA;rfl;rfl;exact Tryz.func181;rfl;rfl;simp only[go_sem];rfl;refine tQ ?_;repeat first|with_reducible constructor|(with_reducible apply tG);kernel_rfl;intro _ _;(repeat apply tOp;intro _;simp only[h188,h189,h191,h193,e5,h188b,h191b,e6,hm,h6,h7,go_sem];rfl);rfl;simp only[go_sem];rfl|(with_reducible apply t1);rfl;(first|rfl|assumption)|(with_reducible apply t0);rfl;first|rfl|assumption
     ((with_reducible apply tP);(focus (intro _ _;(repeat (apply tOp;(focus (intro _;simp only[h188,h189,h191,h193,e5,h188b,h191b,e6,hm,h6,h7,go_sem];rfl))));apply tOpP;simp only[h188,h189,h191,h193,e5,h188b,h191b,e6,hm,h6,h7,go_sem];rfl)))
     repeat first|with_reducible apply tsP|with_reducible apply tbP
     rfl
   |false =>
   cases e9:decide (Lib.indexByte signL c.toNat.toUInt8≥0) with
   |true =>
    rcases h194 1 6 1 rfl (by omega) (by omega) with ⟨kd,num,txt,hm,ht1,ht2,hq⟩|⟨a,e,hm,hq⟩
    ·
     rw[tokE] at hm;refine .inl ⟨kd,num,txt,?_,ht1,ht2,tokQ_rest (by rw[hcc];exact e3) (by rw[hcc];exact e4) (by rw[hcc,hcn];exact qy) hq.1⟩;rw[tokE];apply tA;rfl;rfl;exact Tryz.func181;rfl;rfl;simp only[go_sem];rfl;refine tQ ?_;repeat first|with_reducible constructor|(with_reducible apply tG);kernel_rfl;intro _ _;(repeat apply tOp;intro _;simp only[h188,h189,h191,h193,e5,h188b,h191b,e6,hm,h6,h7,h196,go_sem];rfl);rfl;simp only[go_sem];rfl|(with_reducible apply t1);rfl;(first|rfl|assumption)|(with_reducible apply t0);rfl;first|rfl|assumption
     exact fin0 rfl
    ·
     rw[wrongE] at hm;refine .inr ⟨a,e,?_,tokR_rest (by rw[hcc];exact e3) (by rw[hcc];exact e4) (by rw[hcc,hcn];exact qy)⟩;rw[wrongE];apply tA;rfl;rfl;exact Tryz.func181;rfl;rfl;simp only[go_sem];rfl;refine tQ ?_;repeat first|with_reducible constructor|(with_reducible apply tG);kernel_rfl;intro _ _;(repeat apply tOp;intro _;simp only[h188,h189,h191,h193,e5,h188b,h191b,e6,hm,h6,h7,h196,go_sem];rfl);rfl;simp only[go_sem];rfl|(with_reducible apply t1);rfl;(first|rfl|assumption)|(with_reducible apply t0);rfl;first|rfl|assumption
     ((with_reducible apply tP);(focus (intro _ _;(repeat (apply tOp;(focus (intro _;simp only[h188,h189,h191,h193,e5,h188b,h191b,e6,hm,h6,h7,h196,go_sem];rfl))));apply tOpP;simp only[h188,h189,h191,h193,e5,h188b,h191b,e6,hm,h6,h7,h196,go_sem];rfl)))
     repeat first|with_reducible apply tsP|with_reducible apply tbP
     rfl
   |false =>
    refine .inr ⟨(at_:Nat),11,?_,tokR_rest (by rw[hcc];exact e3) (by rw[hcc];exact e4) (by rw[hcc,hcn];exact qy)⟩;rw[wrongE];apply tA;rfl;rfl;exact Tryz.func181;rfl;rfl;simp only[go_sem];rfl;refine tQ ?_;repeat first|with_reducible constructor|(with_reducible apply tG);kernel_rfl;intro _ _;(repeat apply tOp;intro _;simp only[h188,h189,h191,h193,e5,h188b,h191b,e6,h6,h7,h196,go_sem];rfl);rfl;simp only[go_sem];rfl|(with_reducible apply t0);rfl;first|rfl|assumption
    ((with_reducible apply tP);(focus (intro _ _;(repeat (apply tOp;(focus (intro _;simp only[go_sem];rfl))));apply tOpP;simp only[go_sem];rfl)))
    repeat first|with_reducible apply tsP|with_reducible apply tbP
    rfl
 cases e5:(c==39) with
 |false=>exact rest_ (.inl e5)
 |true =>
  cases e6:smallI c1 with
  |false=>exact rest_ (.inr ⟨e5,e6⟩)
  |true =>
   have hs2:=hs1 (by intro h;rw[h] at e6;cases e6);rcases h194 (1+d) 4 ((1+d:Nat):Int) rfl (by omega) (by omega) with ⟨kd,num,txt,hm,ht1,ht2,hq⟩|⟨a,e,hm,hq⟩
   ·
    rw[tokE] at hm;refine .inl ⟨kd,num,txt,?_,ht1,ht2,tokQ_var (by rw[hcc];exact e5) (by rw[hcn];exact e6) ⟨hq.2.trans (by rw[varT,varN,hd]),hq.1⟩⟩;rw[tokE];apply tA;rfl;rfl;exact Tryz.func181;rfl;rfl;simp only[go_sem];rfl;refine tQ ?_;repeat first|with_reducible constructor|(with_reducible apply tG);kernel_rfl;intro _ _;(repeat apply tOp;intro _;simp only[h188,h189,h191,h193,e5,h188b,h191b,e6,hm,h184,hw1,go_sem];rfl);rfl;simp only[go_sem];rfl|(with_reducible apply t1);rfl;(first|rfl|assumption)|(with_reducible apply t0);rfl;first|rfl|assumption
    exact fin0 rfl
   ·
    rw[wrongE] at hm;refine .inr ⟨a,e,?_,tokR_var (by rw[hcc];exact e5) (by rw[varN,hd];exact hq)⟩;rw[wrongE];apply tA;rfl;rfl;exact Tryz.func181;rfl;rfl;simp only[go_sem];rfl;refine tQ ?_;repeat first|with_reducible constructor|(with_reducible apply tG);kernel_rfl;intro _ _;(repeat apply tOp;intro _;simp only[h188,h189,h191,h193,e5,h188b,h191b,e6,hm,h184,hw1,go_sem];rfl);rfl;simp only[go_sem];rfl|(with_reducible apply t1);rfl;(first|rfl|assumption)|(with_reducible apply t0);rfl;first|rfl|assumption
    ((with_reducible apply tP);(focus (intro _ _;(repeat (apply tOp;(focus (intro _;simp only[h188,h189,h191,h193,e5,h188b,h191b,e6,hm,h184,hw1,go_sem];rfl))));apply tOpP;simp only[h188,h189,h191,h193,e5,h188b,h191b,e6,hm,h184,hw1,go_sem];rfl)))
    repeat first|with_reducible apply tsP|with_reducible apply tbP
    rfl
end Go.Proofs.YtkmnkiekmlcfdaaGreatDoor
