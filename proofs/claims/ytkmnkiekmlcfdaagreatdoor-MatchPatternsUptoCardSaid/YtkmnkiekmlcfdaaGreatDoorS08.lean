/- Part S08 of the proof of one law of the program. -/
import Derived.Test.YtkmnkiekmlcfdaaGreatDoorS07
set_option linter.all false
namespace Go.Proofs.YtkmnkiekmlcfdaaGreatDoor
open Go.AM
section
open Go.AM
set_option maxRecDepth 100000
set_option maxHeartbeats 4000000
variable {kd:List UInt8→Int}
mutual
def varsR:PaD→List (List UInt8)
 |.mk k n l=>(bif k==2 then [n] else [])++varsRs l
def varsRs:List PaD→List (List UInt8)
 |[]=>[]
 |a::l=>varsR a++varsRs l
end
theorem varsR_eq (p:PaD):varsR p=(bif p.kind==2 then [p.name] else [])++varsRs p.args:=by cases p;rfl
mutual
theorem varsR_len:∀ p:PaD,(varsR p).length≤p.size
 |.mk k n l=>by
  have:=varsRs_len l
  simp only[varsR,List.length_append,PaD.size];cases (k==2) <;> simp only[cond_true,cond_false,List.length_cons,List.length_nil] <;> omega
theorem varsRs_len:∀ l:List PaD,(varsRs l).length≤PaD.sizes l
 |[]=>by simp [varsRs]
 |a::l=>by
  have h1:=varsR_len a;have h2:=varsRs_len l;simp only[varsRs,List.length_append,PaD.sizes];omega
end
theorem loop61 (k:Int) (nm:List UInt8) (T:Sto) (ys:List PaD):∀ (pre:List PaD) (X:List AVal),(pre++ys).length < big →
  (∀ x∈ys,∀ Y:List AVal,Y.length+(varsR x).length≤X.length+(varsRs ys).length→CF kd (.fn 61) [.own 1 Y,.val x.enc] T=some (.ret (.own 1 (Y++(varsR x).map .str)),T)) →
  ∃ s1 s3 s4 s5 s8 s18,LP kd 61 (loopOf Tryz.f61 0) ⟨[.own 1 X,.dead,.box [.val (.int .i64 k),.val (.str nm),.val (.slice ((pre++ys).map PaD.enc))],.dead,.val (.int .i64 (pre.length:Nat)),.dead,.dead],T⟩ =
   some (.exit 0,⟨[.own 1 (X++(varsRs ys).map .str),s1,s3,s4,s5,s8,s18],T⟩):=by
 induction ys with
 |nil =>
  intro pre X h3 h4;have hlt:=geI pre;simp only[List.append_nil,varsRs,List.map_nil];iterate 6 apply Exists.intro
  refine tJ rfl ?_;repeat first|with_reducible constructor|(with_reducible apply tG);kernel_rfl;intro _ _;(repeat apply tOp;intro _;simp only[List.length_map,go_sem];rfl);rfl;simp only[go_sem];rfl|(with_reducible apply t0);rfl;trivial
  exact tlX;all_goals exact .dead
 |cons y ys ih =>
  intro pre X h3 h4;have hget:=getI PaD.enc pre ys y;have hy:=h4 y (by simp) X (by simp only[varsRs,List.length_append];omega);have hlt:=ltI pre ys y;have h0:=zI pre.length;have hw:=wL pre ys y h3;have b00:((0:Nat)==0)=true:=rfl;have b10:((1:Nat)==0)=false:=rfl;have b27:((27:Nat)==3)=false:=rfl;rw[y.enc_eq] at hget hy;obtain ⟨s1,s3,s4,s5,s8,s18,ih⟩:=ih (pre++[y]) (X++(varsR y).map .str) (by simpa using h3) (fun x hx Y hY=>h4 x (by simp [hx]) Y (by simp only[varsRs,List.length_append,List.length_map] at hY ⊢;omega));simp only[List.append_assoc,List.singleton_append] at ih;rw[show (varsRs (y::ys)).map AVal.str=(varsR y).map AVal.str++(varsRs ys).map AVal.str by simp only[varsRs,List.map_append]];refine ⟨s1,s3,s4,s5,s8,s18,?_⟩;refine tJ rfl ?_;repeat first|with_reducible constructor|(with_reducible apply tG);kernel_rfl;intro _ _;(repeat apply tOp;intro _;simp only[List.length_map,hget,h0,hw,hy,b00,b10,b27,go_sem];rfl);rfl;simp only[go_sem];rfl|(with_reducible apply t1);rfl;trivial
  exact ih
theorem c61:∀ (m:Nat) (p:PaD),p.size < m→m≤big→∀ (X:List AVal) (T:Sto),X.length+(varsR p).length+1 < big→CF kd (.fn 61) [.own 1 X,.val p.enc] T=some (.ret (.own 1 (X++(varsR p).map .str)),T):=by
 intro m;induction m with
 |zero=>intro p h;omega
 |succ m ih =>
  intro p hp hm X T hX;have hlen:=p.args_len;have hvl:=varsRs_len p.args;have hsz:PaD.sizes p.args+p.name.length+1≤p.size:=by cases p;simp only[PaD.args,PaD.name,PaD.size];omega
  have hr:Nat.ble (X.length+1) room=true:=Nat.ble_eq_true_of_le (by simp only[big] at hX;unfold room;omega);have hve:=varsR_eq p;rw[varsR_eq] at hX;rw[varsR_eq,p.enc_eq];cases hk:(p.kind==2) with
  |true =>
   obtain ⟨s1,s3,s4,s5,s8,s18,hl⟩:=loop61 (kd:=kd) p.kind p.name T p.args [] (X++[.str p.name]) (by simp only[List.nil_append];omega) (fun x hx Y hY=>ih x (by have:=PaD.args_size hx;omega) (by omega) Y T (by rw[hk] at hX;simp only[cond_true,List.length_append,List.length_singleton] at hX hY;omega));simp only[List.nil_append,List.length_nil] at hl;have e0:((0:Nat):Int)=0:=rfl;rw[e0] at hl;simp only[List.append_assoc,List.singleton_append] at hl;simp only[cond_true,List.singleton_append,List.map_cons];apply tA;rfl;rfl;exact Tryz.func61;rfl;rfl;simp only[go_sem];rfl;refine tQ ?_;repeat first|with_reducible constructor|(with_reducible apply tG);kernel_rfl;intro _ _;(repeat apply tOp;intro _;simp only[hr,setElems,clean,flat,List.replicate,List.set_cons_zero,List.set_cons_succ,go_sem];rfl);rfl;simp only[go_sem];rfl|(with_reducible apply tM);assumption|(with_reducible apply t1);rfl;trivial
   exact fin0 rfl
  |false =>
   obtain ⟨s1,s3,s4,s5,s8,s18,hl⟩:=loop61 (kd:=kd) p.kind p.name T p.args [] X (by simp only[List.nil_append];omega) (fun x hx Y hY=>ih x (by have:=PaD.args_size hx;omega) (by omega) Y T (by rw[hk] at hX;simp only[cond_false,List.length_append,List.length_nil] at hX hY;omega));simp only[List.nil_append,List.length_nil] at hl;have e0:((0:Nat):Int)=0:=rfl;rw[e0] at hl;simp only[cond_false,List.nil_append];apply tA;rfl;rfl;exact Tryz.func61;rfl;rfl;simp only[go_sem];rfl;refine tQ ?_;repeat first|with_reducible constructor|(with_reducible apply tG);kernel_rfl;intro _ _;(repeat apply tOp;intro _;simp only[go_sem];rfl);rfl;simp only[go_sem];rfl|(with_reducible apply tM);assumption|(with_reducible apply t0);rfl;trivial
   exact fin0 rfl
def twiceR:List (List UInt8)→List (List UInt8)→Bool
 |_,[]=>false
 |pre,y::ys=>pre.any (fun z=>z==y)||twiceR (pre++[y]) ys
theorem loop108 (T:Sto) (ys:List (List UInt8)):∀ (pre:List (List UInt8)),(pre++ys).length < big →
  ∃ s0 s2 s3 s7 s18,LP kd 108 (loopOf Tryz.f108 0) ⟨[.val (.slice ((pre++ys).map .str)),.dead,.val (.int .i64 (pre.length:Nat)),.dead,.dead],T⟩ =
   bif twiceR pre ys then some (.ret,⟨[s0,.val (.bool true),s3,s7,s18],T⟩) else some (.exit 0,⟨[s0,s2,s3,s7,s18],T⟩):=by
 induction ys with
 |nil =>
  intro pre h3;have hlt:=geI pre;simp only[List.append_nil,twiceR,cond_false];iterate 5 apply Exists.intro
  refine tJ rfl ?_;repeat first|with_reducible constructor|(with_reducible apply tG);kernel_rfl;intro _ _;(repeat apply tOp;intro _;simp only[List.length_map,go_sem,Nat.reduceAdd,reduceIte];rfl);rfl;simp only[go_sem];rfl|(with_reducible apply t0);rfl;trivial
  exact tlX;all_goals exact .dead
 |cons y ys ih =>
  intro pre h3;have hget:=getI AVal.str pre ys y;have hlt:=ltI pre ys y;have h0:=zI pre.length;have hw:=wL pre ys y h3;have h78:=c78 (kd:=kd) y pre T (by simp at h3;omega);have hle:decide (((pre.length:Nat):Int)≤((pre++y::ys).length:Nat))=true:=by rw[decide_eq_true_eq];simp;omega
  have hle2:decide (((pre.length:Nat):Int)≤((pre.length:Nat):Int))=true:=by rw[decide_eq_true_eq];exact Int.le_refl _
  have hcut:((pre++y::ys).map AVal.str).take ((pre.length:Nat):Int).toNat=pre.map .str:=by
   show ((pre++y::ys).map AVal.str).take pre.length=_;rw[←List.map_take,List.take_left'];rfl
  have hhd:headOk 1 (pre.map AVal.str)=true:=by cases pre <;> rfl
  have d00:decide ((0:Int)≤0)=true:=rfl;have n0:Int.toNat 0=0:=rfl;have dT:decide True=true:=rfl;unfold twiceR;cases hp:pre.any (fun z=>z==y) with
  |true =>
   rw[hp] at h78;simp only[Bool.true_or,cond_true];iterate 5 apply Exists.intro
   refine tJ rfl ?_;repeat first|with_reducible constructor|(with_reducible apply tG);kernel_rfl;intro _ _;(repeat apply tOp;intro _;simp only[List.length_map,hget,h0,hle,hle2,hcut,hhd,d00,n0,dT,h78,go_sem,Nat.reduceAdd,reduceIte];rfl);rfl;simp only[go_sem];rfl|(with_reducible apply t1);rfl;trivial
   exact tlE;all_goals exact .dead
  |false =>
   rw[hp] at h78;obtain ⟨s0,s2,s3,s7,s18,ih⟩:=ih (pre++[y]) (by simpa using h3);simp only[List.append_assoc,List.singleton_append] at ih;simp only[Bool.false_or];refine ⟨s0,s2,s3,s7,s18,?_⟩;cases hz:twiceR (pre++[y]) ys
   all_goals
    rw[hz] at ih;simp only[cond_true,cond_false] at ih ⊢;refine tJ rfl ?_;repeat first|with_reducible constructor|(with_reducible apply tG);kernel_rfl;intro _ _;(repeat apply tOp;intro _;simp only[List.length_map,hget,h0,hle,hle2,hcut,hhd,d00,n0,dT,h78,hw,go_sem,Nat.reduceAdd,reduceIte];rfl);rfl;simp only[go_sem];rfl|(with_reducible apply t1);rfl;trivial|(with_reducible apply t0);rfl;trivial
    exact ih
theorem c108 (l:List (List UInt8)) (T:Sto) (h:l.length < big):CF kd (.fn 108) [.val (.slice (l.map .str))] T=some (.ret (.val (.bool (twiceR [] l))),T):=by
 obtain ⟨s0,s2,s3,s7,s18,hl⟩:=loop108 (kd:=kd) T l [] (by simpa using h);simp only[List.nil_append,List.length_nil] at hl;have e0:((0:Nat):Int)=0:=rfl;rw[e0] at hl;cases hz:twiceR [] l
 all_goals
  rw[hz] at hl;simp only[cond_true,cond_false] at hl;apply tA;rfl;rfl;exact Tryz.func108;rfl;rfl;simp only[go_sem];rfl;refine tQ ?_;repeat first|with_reducible constructor|(with_reducible apply tG);kernel_rfl;intro _ _;(repeat apply tOp;intro _;simp only[go_sem];rfl);rfl;simp only[go_sem];rfl|(with_reducible apply tM);assumption
  exact fin0 rfl
end
section
open Go.AM
set_option maxRecDepth 100000
set_option maxHeartbeats 4000000
variable {kd:List UInt8→Int}
def sN:List AVal→Slot
 |[]=>.nl
 |a::l=>.own 1 (a::l)
theorem loop61n (k:Int) (nm:List UInt8) (T:Sto) (ys:List PaD):∀ (pre:List PaD),(pre++ys).length < big→(varsRs ys).length+1 < big →
  (∀ x∈ys,x.size+1 < big∧CF kd (.fn 61) [.nl,.val x.enc] T=some (.ret (sN ((varsR x).map .str)),T)) →
  ∃ s1 s3 s4 s5 s8 s18,LP kd 61 (loopOf Tryz.f61 0) ⟨[.nl,.dead,.box [.val (.int .i64 k),.val (.str nm),.val (.slice ((pre++ys).map PaD.enc))],.dead,.val (.int .i64 (pre.length:Nat)),.dead,.dead],T⟩ =
   some (.exit 0,⟨[sN ((varsRs ys).map .str),s1,s3,s4,s5,s8,s18],T⟩):=by
 induction ys with
 |nil =>
  intro pre h3 h4 h5;have hlt:=geI pre;simp only[List.append_nil,varsRs,List.map_nil,sN];iterate 6 apply Exists.intro
  refine tJ rfl ?_;repeat first|with_reducible constructor|(with_reducible apply tG);kernel_rfl;intro _ _;(repeat apply tOp;intro _;simp only[List.length_map,go_sem];rfl);rfl;simp only[go_sem];rfl|(with_reducible apply t0);rfl;trivial
  exact tlX;all_goals exact .dead
 |cons y ys ih =>
  intro pre h3 h4 h5;have hget:=getI PaD.enc pre ys y;have hy:=(h5 y (by simp)).2;have hlt:=ltI pre ys y;have h0:=zI pre.length;have hw:=wL pre ys y h3;have b00:((0:Nat)==0)=true:=rfl;have b10:((1:Nat)==0)=false:=rfl;have b27:((27:Nat)==3)=false:=rfl;rw[y.enc_eq] at hget hy;rw[show (varsRs (y::ys)).map AVal.str=(varsR y).map AVal.str++(varsRs ys).map AVal.str by simp only[varsRs,List.map_append]];simp only[varsRs,List.length_append] at h4;cases hv:(varsR y).map AVal.str with
  |nil =>
   rw[hv] at hy;simp only[sN] at hy;obtain ⟨s1,s3,s4,s5,s8,s18,ih⟩:=ih (pre++[y]) (by simpa using h3) (by omega) (fun x hx=>h5 x (by simp [hx]));simp only[List.append_assoc,List.singleton_append] at ih;simp only[List.nil_append];refine ⟨s1,s3,s4,s5,s8,s18,?_⟩;refine tJ rfl ?_;repeat first|with_reducible constructor|(with_reducible apply tG);kernel_rfl;intro _ _;(repeat apply tOp;intro _;simp only[List.length_map,hget,h0,hw,hy,b00,b10,b27,go_sem];rfl);rfl;simp only[go_sem];rfl|(with_reducible apply t1);rfl;trivial
   exact ih
  |cons a l =>
   rw[hv] at hy;simp only[sN] at hy;have hvl:(a::l).length=(varsR y).length:=by rw[←hv,List.length_map]
   obtain ⟨s1,s3,s4,s5,s8,s18,hl⟩:=loop61 (kd:=kd) k nm T ys (pre++[y]) (a::l) (by simpa using h3) (fun x hx Y hY=>c61 _ x (Nat.lt_succ_self _) (by have:=(h5 x (by simp [hx])).1;omega) Y T (by rw[hvl] at hY;omega));simp only[List.append_assoc,List.singleton_append] at hl;simp only[List.cons_append,sN] at hl ⊢;refine ⟨s1,s3,s4,s5,s8,s18,?_⟩;refine tJ rfl ?_;repeat first|with_reducible constructor|(with_reducible apply tG);kernel_rfl;intro _ _;(repeat apply tOp;intro _;simp only[List.length_map,hget,h0,hw,hy,b00,b10,b27,go_sem];rfl);rfl;simp only[go_sem];rfl|(with_reducible apply t1);rfl;trivial
   exact hl
theorem c61n:∀ (m:Nat) (p:PaD),p.size < m→m < big→∀ (T:Sto),CF kd (.fn 61) [.nl,.val p.enc] T=some (.ret (sN ((varsR p).map .str)),T):=by
 intro m;induction m with
 |zero=>intro p h;omega
 |succ m ih =>
  intro p hp hm T;have hlen:=p.args_len;have hvl:=varsRs_len p.args;have hsz:PaD.sizes p.args+p.name.length+1≤p.size:=by cases p;simp only[PaD.args,PaD.name,PaD.size];omega
  have hr:Nat.ble 1 room=true:=rfl;have e0:((0:Nat):Int)=0:=rfl;rw[varsR_eq,p.enc_eq];cases hk:(p.kind==2) with
  |true =>
   obtain ⟨s1,s3,s4,s5,s8,s18,hl⟩:=loop61 (kd:=kd) p.kind p.name T p.args [] [.str p.name] (by simp only[List.nil_append];omega) (fun x hx Y hY=>c61 _ x (Nat.lt_succ_self _) (by have:=PaD.args_size hx;omega) Y T (by simp only[List.length_singleton] at hY;omega));simp only[List.nil_append,List.length_nil] at hl;rw[e0] at hl;simp only[List.singleton_append] at hl;simp only[cond_true,List.singleton_append,List.map_cons,sN];apply tA;rfl;rfl;exact Tryz.func61;rfl;rfl;simp only[go_sem];rfl;refine tQ ?_;repeat first|with_reducible constructor|(with_reducible apply tG);kernel_rfl;intro _ _;(repeat apply tOp;intro _;simp only[hr,setElems,clean,flat,List.replicate,List.set_cons_zero,List.set_cons_succ,go_sem];rfl);rfl;simp only[go_sem];rfl|(with_reducible apply tM);assumption|(with_reducible apply t1);rfl;trivial
   exact fin0 rfl
  |false =>
   obtain ⟨s1,s3,s4,s5,s8,s18,hl⟩:=loop61n (kd:=kd) p.kind p.name T p.args [] (by simp only[List.nil_append];omega) (by omega) (fun x hx=>⟨by have:=PaD.args_size hx;omega,ih x (by have:=PaD.args_size hx;omega) (by omega) T⟩);simp only[List.nil_append,List.length_nil] at hl;rw[e0] at hl;simp only[cond_false,List.nil_append];cases hv:(varsRs p.args).map AVal.str with
   |nil =>
    rw[hv] at hl;simp only[sN] at hl ⊢;apply tA;rfl;rfl;exact Tryz.func61;rfl;rfl;simp only[go_sem];rfl;refine tQ ?_;repeat first|with_reducible constructor|(with_reducible apply tG);kernel_rfl;intro _ _;(repeat apply tOp;intro _;simp only[go_sem];rfl);rfl;simp only[go_sem];rfl|(with_reducible apply tM);assumption|(with_reducible apply t0);rfl;trivial
    exact fin0 rfl
   |cons a l =>
    rw[hv] at hl;simp only[sN] at hl ⊢;apply tA;rfl;rfl;exact Tryz.func61;rfl;rfl;simp only[go_sem];rfl;refine tQ ?_;repeat first|with_reducible constructor|(with_reducible apply tG);kernel_rfl;intro _ _;(repeat apply tOp;intro _;simp only[go_sem];rfl);rfl;simp only[go_sem];rfl|(with_reducible apply tM);assumption|(with_reducible apply t0);rfl;trivial
    exact fin0 rfl
def chkPR (ds:List DaD) (t:TyD) (p:PaD):Int:=bif deepD 100 p then 6 else bif !formedD nameB ds t p then 50 else bif twiceR [] (varsR p) then 51 else 0
theorem c60 {ds:List DaD} (h:DsOk ds) (t:TyD) (p:PaD) (hp:p.size+1 < big) (T:Sto) :
  CF kd (.fn 60) [.val (.slice (ds.map DaD.enc)),.val t.enc,.val p.enc] T=some (.ret (.val (.int .i64 (chkPR ds t p))),T):=by
 have h86:=c86 (kd:=kd) 100 (by simp [big]) p T (by omega);have e100:((100:Nat):Int)=100:=rfl;rw[e100] at h86;have h107:=c107 (kd:=kd) h p (by omega) t T;have h61:=c61n (kd:=kd) _ p (Nat.lt_succ_self _) hp T;have h108:=c108 (kd:=kd) (varsR p) T (by have:=varsR_len p;omega);have b00:((0:Nat)==0)=true:=rfl;have b10:((1:Nat)==0)=false:=rfl;have o108:(ans 108).ownArg=[]:=by rw[an108]
 have b164:((16:Nat)==4)=false:=rfl;have b165:((16:Nat)==5)=false:=rfl;unfold chkPR;rw[p.enc_eq] at h86 h107 h61 ⊢;rw[t.enc_eq] at h107 ⊢;cases h1:deepD 100 p with
 |true =>
  rw[h1] at h86;simp only[cond_true];apply tA;rfl;rfl;exact Tryz.func60;rfl;rfl;simp only[go_sem];rfl;refine tQ ?_;repeat first|with_reducible constructor|(with_reducible apply tG);kernel_rfl;intro _ _;(repeat apply tOp;intro _;simp only[h86,go_sem];rfl);rfl;simp only[go_sem];rfl|(with_reducible apply t1);rfl;trivial
  exact fin0 rfl
 |false =>
 rw[h1] at h86;simp only[cond_false];cases h2:formedD nameB ds t p with
 |false =>
  rw[h2] at h107;simp only[Bool.not_false,cond_true];apply tA;rfl;rfl;exact Tryz.func60;rfl;rfl;simp only[go_sem];rfl;refine tQ ?_;repeat first|with_reducible constructor|(with_reducible apply tG);kernel_rfl;intro _ _;(repeat apply tOp;intro _;simp only[h86,h107,go_sem];rfl);rfl;simp only[go_sem];rfl|(with_reducible apply t1);rfl;trivial|(with_reducible apply t0);rfl;trivial
  exact fin0 rfl
 |true =>
 rw[h2] at h107;simp only[Bool.not_true,cond_false];cases hv:(varsR p).map AVal.str with
 |nil =>
  rw[hv] at h61 h108;simp only[sN] at h61;cases h3:twiceR [] (varsR p) with
  |true =>
   rw[h3] at h108;simp only[cond_true,cond_false];apply tA;rfl;rfl;exact Tryz.func60;rfl;rfl;simp only[go_sem];rfl;refine tQ ?_;repeat first|with_reducible constructor|(with_reducible apply tG);kernel_rfl;intro _ _;(repeat apply tOp;intro _;simp only[h86,h107,h61,h108,b00,b10,o108,b164,b165,go_sem];rfl);rfl;simp only[go_sem];rfl|(with_reducible apply t1);rfl;trivial|(with_reducible apply t0);rfl;trivial
   exact fin0 rfl
  |false =>
   rw[h3] at h108;simp only[cond_true,cond_false];apply tA;rfl;rfl;exact Tryz.func60;rfl;rfl;simp only[go_sem];rfl;refine tQ ?_;repeat first|with_reducible constructor|(with_reducible apply tG);kernel_rfl;intro _ _;(repeat apply tOp;intro _;simp only[h86,h107,h61,h108,b00,b10,o108,b164,b165,go_sem];rfl);rfl;simp only[go_sem];rfl|(with_reducible apply t0);rfl;trivial
   exact fin0 rfl
 |cons a l =>
  rw[hv] at h61 h108;simp only[sN] at h61;cases h3:twiceR [] (varsR p) with
  |true =>
   rw[h3] at h108;simp only[cond_true,cond_false];apply tA;rfl;rfl;exact Tryz.func60;rfl;rfl;simp only[go_sem];rfl;refine tQ ?_;repeat first|with_reducible constructor|(with_reducible apply tG);kernel_rfl;intro _ _;(repeat apply tOp;intro _;simp only[h86,h107,h61,h108,b00,b10,o108,b164,b165,go_sem];rfl);rfl;simp only[go_sem];rfl|(with_reducible apply t1);rfl;trivial|(with_reducible apply t0);rfl;trivial
   exact fin0 rfl
  |false =>
   rw[h3] at h108;simp only[cond_true,cond_false];apply tA;rfl;rfl;exact Tryz.func60;rfl;rfl;simp only[go_sem];rfl;refine tQ ?_;repeat first|with_reducible constructor|(with_reducible apply tG);kernel_rfl;intro _ _;(repeat apply tOp;intro _;simp only[h86,h107,h61,h108,b00,b10,o108,b164,b165,go_sem];rfl);rfl;simp only[go_sem];rfl|(with_reducible apply t0);rfl;trivial
   exact fin0 rfl
end
end Go.Proofs.YtkmnkiekmlcfdaaGreatDoor
