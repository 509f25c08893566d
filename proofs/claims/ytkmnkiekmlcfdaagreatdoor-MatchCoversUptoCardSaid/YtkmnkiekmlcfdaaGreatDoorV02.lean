/- Part V02 of the proof of one law of the program. -/
import Derived.Test.YtkmnkiekmlcfdaaGreatDoorV01
set_option linter.all false
namespace Go.Proofs.YtkmnkiekmlcfdaaGreatDoor
open Go.AM
set_option maxRecDepth 100000
set_option maxHeartbeats 1000000
variable {kd:List UInt8→Int}
abbrev Row:=PaD×List PaD
def Row.enc (r:Row):AVal:=.slice (r.1.enc::r.2.map PaD.enc)
theorem Row.enc_eq (r:Row):Row.enc r=.slice (.agg [.int .i64 r.1.kind,.str r.1.name,.slice (r.1.args.map PaD.enc)]::r.2.map PaD.enc):=by rw[Row.enc,r.1.enc_eq]
def under (c:CoD):List Row→List (List PaD)
 |[]=>[]
 |r::rs=>match fieldsD r.1 c with
  |some f=>(f++r.2)::under c rs
  |none=>under c rs
theorem under_len (c:CoD):∀ rs:List Row,(under c rs).length≤rs.length
 |[]=>Nat.le_refl _
 |r::rs=>by
  have:=under_len c rs
  simp only[under]
  split <;> simp only[List.length_cons] <;> omega
theorem fieldsD_len {p:PaD} {c:CoD} {f:List PaD} (h:fieldsD p c=some f):f.length=c.args.length:=by
 simp only[fieldsD] at h
 split at h
 ·cases h;simp [wilds]
 ·split at h
  ·rename_i _ hh;cases h;simp only[Bool.and_eq_true] at hh;have:=eq_of_beq hh.2;omega
  ·cases h
theorem all3 (l:List PaD):((l.map PaD.enc).all fun y=>Nat.beq y.cells.length 3)=true:=by
 rw[List.all_eq_true];intro x hx;obtain ⟨n,_,rfl⟩:=List.mem_map.1 hx;rw[n.enc_eq];rfl
theorem all2 (l:List TyD):((l.map TyD.enc).all fun y=>Nat.beq y.cells.length 2)=true:=by
 rw[List.all_eq_true];intro x hx;obtain ⟨n,_,rfl⟩:=List.mem_map.1 hx;rw[n.enc_eq];rfl
theorem takeP (l:List PaD):(l.map PaD.enc).take l.length=l.map PaD.enc:=by apply List.take_of_length_le;simp
theorem takeT (l:List TyD):(l.map TyD.enc).take l.length=l.map TyD.enc:=by apply List.take_of_length_le;simp
theorem leS (n:Nat):decide (((n:Nat):Int)≤((n:Nat):Int))=true:=by simp
theorem eqS (n:Nat):decide (((n:Nat):Int)=((n:Nat):Int))=true:=by simp
theorem le1S (n:Nat):decide ((1:Int)≤((n+1:Nat):Int))=true:=by simp;omega
theorem d01:decide ((0:Int)≤1)=true:=rfl
theorem d00:decide ((0:Int)≤0)=true:=rfl
theorem n0:(0:Int).toNat=0:=rfl
theorem n1:(1:Int).toNat=1:=rfl
theorem roomA (a b:Nat) (h:a+b < big):Nat.ble (a+b) room=true:=by
 apply Nat.ble_eq_true_of_le;simp only[room];simp only[big] at h;omega
theorem loop151 (c:CoD) (hc16:c.args.length≤16) (a1 a3 a4 a8:Slot) (sto:Sto) (ys:List Row):∀ (pre:List Row) (X:List AVal),(pre++ys).length < big→X.length+ys.length+1 < big→(∀ r∈ys,c.args.length+r.2.length < big) →
  ∃ s0 s2 s6 s7 s9 s12 s13 s14 s15 s16 s26 s27 s28 s29 s30 s41 s83,LP kd 151 (loopOf Tryz.f151 0) ⟨[.dead,a1,.dead,a3,a4,.box [.val (.str c.name),.val (.slice (c.args.map TyD.enc))],.dead,.dead,a8,.dead,.own 1 X,.dead,.dead,.dead,.dead,.dead,.dead,.val (.slice ((pre++ys).map Row.enc)),.val (.int .i64 ((pre++ys).length:Nat)),.val (.int .i64 (pre.length:Nat)),.dead,.dead,.dead],sto⟩ =
   some (.exit 0,⟨[s0,a1,s2,a3,a4,.box [.val (.str c.name),.val (.slice (c.args.map TyD.enc))],s6,s7,a8,s9,.own 1 (X++(under c ys).map rowE),s12,s13,s14,s15,s16,s26,s27,s28,s29,s30,s41,s83],sto⟩):=by
 induction ys with
 |nil =>
  intro pre X h3 h4 h2;have hlt:=geI pre;simp only[under,List.map_nil,List.append_nil];iterate 17 apply Exists.intro
  refine tJ rfl ?_;repeat first|with_reducible constructor|(with_reducible apply tG);kernel_rfl;intro _ _;(repeat apply tOp;intro _;simp only[go_sem,Nat.reduceAdd,reduceIte];rfl);rfl;simp only[go_sem];rfl
  (with_reducible apply tF);simp only[go_sem];rfl;exact hlt;refine tQ ?_;repeat with_reducible constructor
  exact tlX;all_goals exact .dead
 |cons y ys ih =>
  intro pre X h3 h4 h2;have hget:=getI Row.enc pre ys y;rw[Row.enc_eq] at hget;have hlt:=ltI pre ys y;have h0:=zI pre.length;have hw:=wL pre ys y h3;have hr:=roomI X (by simp at h4;omega);have h152:=c152 (kd:=kd) y.1 c hc16 sto;rw[y.1.enc_eq,c.enc_eq] at h152;have hy:=h2 y (by simp);simp only[under];cases hf:fieldsD y.1 c with
  |none =>
   rw[hf] at h152;simp only[Option.getD_none,Option.isSome_none,List.map_nil] at h152;obtain ⟨s0,s2,s6,s7,s9,s12,s13,s14,s15,s16,s26,s27,s28,s29,s30,s41,s83,ih⟩:=ih (pre++[y]) X (by simpa using h3) (by simp at h4;omega) (fun x hx=>h2 x (by simp [hx]));simp only[List.append_assoc,List.singleton_append] at ih;refine ⟨s0,s2,s6,s7,s9,s12,s13,s14,s15,s16,s26,s27,s28,s29,s30,s41,s83,?_⟩;refine tJ rfl ?_;repeat first|with_reducible constructor|(with_reducible apply tG);kernel_rfl;intro _ _;(repeat apply tOp;intro _;simp only[go_sem,Nat.reduceAdd,reduceIte];rfl);rfl;simp only[go_sem];rfl
   (with_reducible apply tT);simp only[go_sem];rfl;exact hlt;refine tQ ?_;repeat first|with_reducible constructor|(with_reducible apply tG);kernel_rfl;intro _ _;(repeat apply tOp;intro _;simp only[hget,h0,h152,d00,n0,go_sem,Nat.reduceAdd,reduceIte];rfl);rfl;simp only[go_sem];rfl
   (with_reducible apply tF);simp only[go_sem];rfl;rfl;refine tQ ?_;repeat first|with_reducible constructor|(with_reducible apply tG);kernel_rfl;intro _ _;(repeat apply tOp;intro _;simp only[hw,go_sem,Nat.reduceAdd,reduceIte];rfl);rfl;simp only[go_sem];rfl
   exact ih
  |some f =>
   rw[hf] at h152;simp only[Option.getD_some,Option.isSome_some] at h152;have hfl:=fieldsD_len hf;have hra:=roomA f.length y.2.length (by omega);obtain ⟨s0,s2,s6,s7,s9,s12,s13,s14,s15,s16,s26,s27,s28,s29,s30,s41,s83,ih⟩:=ih (pre++[y]) (X++[rowE (f++y.2)]) (by simpa using h3) (by simp at h4 ⊢;omega) (fun x hx=>h2 x (by simp [hx]));simp only[List.append_assoc,List.singleton_append] at ih;simp only[List.map_cons];rw[show rowE (f++y.2)=.slice (f.map PaD.enc++y.2.map PaD.enc) from by simp [rowE]] at ih ⊢;refine ⟨s0,s2,s6,s7,s9,s12,s13,s14,s15,s16,s26,s27,s28,s29,s30,s41,s83,?_⟩;refine tJ rfl ?_;repeat first|with_reducible constructor|(with_reducible apply tG);kernel_rfl;intro _ _;(repeat apply tOp;intro _;simp only[go_sem,Nat.reduceAdd,reduceIte];rfl);rfl;simp only[go_sem];rfl
   (with_reducible apply tT);simp only[go_sem];rfl;exact hlt;refine tQ ?_;repeat first|with_reducible constructor|(with_reducible apply tG);kernel_rfl;intro _ _;(repeat apply tOp;intro _;simp only[hget,h0,h152,d00,n0,go_sem,Nat.reduceAdd,reduceIte];rfl);rfl;simp only[go_sem];rfl
   (with_reducible apply tT);simp only[go_sem];rfl;rfl;refine tQ ?_;repeat first|with_reducible constructor|(with_reducible apply tG);kernel_rfl;intro _ _;(repeat apply tOp;intro _;simp only[Bool.false_eq_true,hw,hr,hra,d00,d01,n0,n1,leS,eqS,le1S,zI,Int.toNat_natCast,takeP,head3,all3,setElems,clean,flat,List.replicate,List.set_cons_zero,List.length_map,go_sem,Nat.reduceAdd,reduceIte];rfl);rfl;simp only[go_sem];rfl
   exact ih
theorem headTk (l:List PaD) (n:Nat):headOk 3 ((l.map PaD.enc).take n)=true:=by rw[←List.map_take];exact head3 _
theorem headDr (l:List PaD) (n:Nat):headOk 3 ((l.map PaD.enc).drop n)=true:=by rw[←List.map_drop];exact head3 _
theorem all3d (l:List PaD) (n:Nat):(((l.map PaD.enc).drop n).all fun y=>Nat.beq y.cells.length 3)=true:=by rw[←List.map_drop];exact all3 _
theorem ann97:(ans 97).ownArg=[]:=by rw[an97]
def resS (r:Option (List PaD)):Slot:=.tup [.slice ((r.getD []).map PaD.enc),.bool r.isSome]
def oneR (q:Row) (c:CoD) (r:Option (List PaD)):Option (List PaD):=match fieldsD q.1 c with
 |none=>none
 |some _=>match r with
  |none=>none
  |some l=>some (.mk 3 c.name (l.take c.args.length)::l.drop c.args.length)
theorem c151 {ds:List DaD} {iq ir id it:Nat} {S:Sto} {q:Row} {t0:TyD} {ts:List TyD} {rows:List Row}
  (hq:S.objs[iq]?=some (.box [.val (Row.enc q)])) (hr:S.objs[ir]?=some (.box [.val (.slice (rows.map Row.enc))])) (hd:S.objs[id]?=some (.box [.val (.slice (ds.map DaD.enc))])) (ht:S.objs[it]?=some (.box [.val (.slice (t0.enc::ts.map TyD.enc))]))
  (c:CoD) (hc16:c.args.length≤16) (r:Option (List PaD)) (b1:c.args.length+q.2.length < big) (b2:c.args.length+ts.length < big) (b3:rows.length+1 < big) (b4:∀ y∈rows,c.args.length+y.2.length < big) (b5:∀ l,r=some l→c.args.length≤l.length∧l.length+1 < big)
  (h97:∀ f,fieldsD q.1 c=some f→CF kd (.fn 97) [.val (.slice (ds.map DaD.enc)),.val (.slice ((c.args++ts).map TyD.enc)),.val (.slice ((f++q.2).map PaD.enc)),.val (.slice ((under c rows).map rowE))] S=some (.ret (resS r),S)) :
  CF kd (.fn 151) [.val c.enc,.val (.loc iq 0),.val (.loc ir 0),.val (.loc id 0),.val (.loc it 0)] S=some (.ret (resS (oneR q c r)),S):=by
 have h152:=c152 (kd:=kd) q.1 c hc16 S;obtain ⟨s0,s2,s6,s7,s9,s12,s13,s14,s15,s16,s26,s27,s28,s29,s30,s41,s83,hl⟩:=loop151 (kd:=kd) c hc16 (.val (.loc iq 0)) (.val (.loc id 0)) (.val (.loc it 0)) (.val (.slice (((fieldsD q.1 c).getD []).map PaD.enc))) S rows [] [] (by simp only[List.nil_append];omega) (by simp only[List.length_nil];omega) b4;simp only[List.nil_append,List.length_nil] at hl;have e0:((0:Nat):Int)=0:=rfl;rw[e0] at hl;rw[Row.enc_eq] at hq;simp only[resS,oneR] at h97 ⊢;rw[q.1.enc_eq,c.enc_eq] at h152;rw[c.enc_eq];cases hf:fieldsD q.1 c with
 |none =>
  rw[hf] at h152;simp only[Option.getD_none,Option.isSome_none,List.map_nil] at h152 ⊢;apply tA;rfl;rfl;exact Tryz.func151;rfl;rfl;simp only[go_sem,Nat.reduceAdd,reduceIte];rfl;refine tQ ?_;repeat first|with_reducible constructor|(with_reducible apply tG);kernel_rfl;intro _ _;(repeat apply tOp;intro _;simp only[hq,h152,d00,n0,Nat.add_zero,go_sem,Nat.reduceAdd,reduceIte];rfl);rfl;simp only[go_sem];rfl
  (with_reducible apply tT);simp only[go_sem];rfl;rfl;refine tQ ?_;repeat first|with_reducible constructor|(with_reducible apply tG);kernel_rfl;intro _ _;(repeat apply tOp;intro _;simp only[go_sem,Nat.reduceAdd,reduceIte];rfl);rfl;simp only[go_sem];rfl
  exact fin0 rfl
 |some f =>
  have h97:=h97 f hf;have hfl:=fieldsD_len hf;rw[hf] at h152 hl;simp only[Option.getD_some,Option.isSome_some] at h152 hl;have hra:=roomA f.length q.2.length (by omega);have hrb:=roomA c.args.length ts.length b2;simp only[List.map_append] at h97;cases r with
  |none =>
   simp only[Option.getD_none,Option.isSome_none,List.map_nil] at h97 ⊢;apply tA;rfl;rfl;exact Tryz.func151;rfl;rfl;simp only[go_sem,Nat.reduceAdd,reduceIte];rfl;refine tQ ?_;repeat first|with_reducible constructor|(with_reducible apply tG);kernel_rfl;intro _ _;(repeat apply tOp;intro _;simp only[hq,h152,d00,n0,Nat.add_zero,go_sem,Nat.reduceAdd,reduceIte];rfl);rfl;simp only[go_sem];rfl
   (with_reducible apply tF);simp only[go_sem];rfl;rfl;refine tQ ?_;repeat first|with_reducible constructor|(with_reducible apply tG);kernel_rfl;intro _ _;(repeat apply tOp;intro _;simp only[hr,List.length_map,go_sem,Nat.reduceAdd,reduceIte];rfl);rfl;simp only[go_sem];rfl
   apply tL;exact hl;refine tQ ?_;repeat first|with_reducible constructor|(with_reducible apply tG);kernel_rfl;intro _ _;(repeat apply tOp;intro _;simp only[hq,hd,ht,hra,hrb,h97,ann97,Bool.false_eq_true,d00,d01,n0,n1,leS,eqS,le1S,zI,Int.toNat_natCast,takeP,takeT,head3,headT,all3,all2,List.length_map,Nat.add_zero,go_sem,Nat.reduceAdd,reduceIte];rfl);rfl;simp only[go_sem];rfl
   (with_reducible apply tT);simp only[go_sem];rfl;rfl;refine tQ ?_;repeat first|with_reducible constructor|(with_reducible apply tG);kernel_rfl;intro _ _;(repeat apply tOp;intro _;simp only[go_sem,Nat.reduceAdd,reduceIte];rfl);rfl;simp only[go_sem];rfl
   exact fin0 rfl
  |some l =>
   obtain ⟨b6,b7⟩:=b5 l rfl;have hle:decide (((c.args.length:Nat):Int)≤((l.length:Nat):Int))=true:=by simp;omega
   have hrd:Nat.ble (1+(l.length - c.args.length)) room=true:=by apply Nat.ble_eq_true_of_le;simp only[room];simp only[big] at b7;omega
   have er:(PaD.mk 3 c.name (l.take c.args.length)::l.drop c.args.length).map PaD.enc=.agg [.int .i64 3,.str c.name,.slice ((l.map PaD.enc).take c.args.length)]::(l.map PaD.enc).drop c.args.length:=by
    simp [PaD.enc_mk,List.map_take,List.map_drop]
   simp only[Option.getD_some,Option.isSome_some,er] at h97 ⊢;apply tA;rfl;rfl;exact Tryz.func151;rfl;rfl;simp only[go_sem,Nat.reduceAdd,reduceIte];rfl;refine tQ ?_;repeat first|with_reducible constructor|(with_reducible apply tG);kernel_rfl;intro _ _;(repeat apply tOp;intro _;simp only[hq,h152,d00,n0,Nat.add_zero,go_sem,Nat.reduceAdd,reduceIte];rfl);rfl;simp only[go_sem];rfl
   (with_reducible apply tF);simp only[go_sem];rfl;rfl;refine tQ ?_;repeat first|with_reducible constructor|(with_reducible apply tG);kernel_rfl;intro _ _;(repeat apply tOp;intro _;simp only[hr,List.length_map,go_sem,Nat.reduceAdd,reduceIte];rfl);rfl;simp only[go_sem];rfl
   apply tL;exact hl;refine tQ ?_;repeat first|with_reducible constructor|(with_reducible apply tG);kernel_rfl;intro _ _;(repeat apply tOp;intro _;simp only[hq,hd,ht,hra,hrb,h97,ann97,Bool.false_eq_true,d00,d01,n0,n1,leS,eqS,le1S,zI,Int.toNat_natCast,takeP,takeT,head3,headT,all3,all2,List.length_map,Nat.add_zero,go_sem,Nat.reduceAdd,reduceIte];rfl);rfl;simp only[go_sem];rfl
   (with_reducible apply tF);simp only[go_sem];rfl;rfl;refine tQ ?_;repeat first|with_reducible constructor|(with_reducible apply tG);kernel_rfl;intro _ _;(repeat apply tOp;intro _;simp only[List.length_map,go_sem,Nat.reduceAdd,reduceIte];rfl);rfl;simp only[go_sem];rfl
   refine tQ ?_;repeat first|with_reducible constructor|(with_reducible apply tG);kernel_rfl;intro _ _;(repeat apply tOp;intro _;simp only[hle,hrd,Bool.false_eq_true,d00,n0,leS,eqS,zI,Int.toNat_natCast,takeP,headTk,headDr,all3d,setElems,clean,flat,List.replicate,List.set_cons_zero,List.length_map,List.length_drop,List.drop_zero,go_sem,Nat.reduceAdd,reduceIte];rfl);rfl;simp only[go_sem];rfl
   exact fin0 rfl
end Go.Proofs.YtkmnkiekmlcfdaaGreatDoor
