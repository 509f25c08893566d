/- Part E03 of the proof of one law of the program. -/
import Derived.Test.YtkmnkiekmlcfdaaGreatDoorE02
set_option linter.all false
namespace Go.Proofs.YtkmnkiekmlcfdaaGreatDoor
open Go.AM
set_option maxRecDepth 100000
variable {kd:List UInt8→Int}
theorem fin3 {α:Type} {X:Option (α×Sto)} {r:α} {n:Nat} {S:Sto} (hn:S.objs.length=n) (h:X=some (r,⟨S.objs.take n,S.lo⟩)):X=some (r,S):=by
 subst hn;rw[h,List.take_length]
inductive Yields (cf:Oracle) (i:Nat) (Inv:Sto→Prop):List AVal→Sto→Sto→Bool→Prop
 |nil {S}:Yields cf i Inv [] S S true
 |stop {x xs S S'}:cf (.yld i) [.val x] S=some (.ret (.val (.bool false)),S')→Inv S'→Yields cf i Inv (x::xs) S S' false
 |more {x xs S S' S'' b}:cf (.yld i) [.val x] S=some (.ret (.val (.bool true)),S')→Inv S'→Yields cf i Inv xs S' S'' b→Yields cf i Inv (x::xs) S S'' b
theorem DaD.enc_eq (d:DaD):d.enc=.agg [.str d.name,.slice (d.vars.map .str),.slice (d.cons.map CoD.enc)]:=rfl
def truthsD:DaD:=⟨[66,111,111,108],[],[⟨[70,97,108,115,101],[]⟩,⟨[84,114,117,101],[]⟩]⟩
theorem truthsD_enc:truthsD.enc=.agg [.str [66,111,111,108],.slice [],.slice [.agg [.str [70,97,108,115,101],.slice []],.agg [.str [84,114,117,101],.slice []]]]:=by
 simp [truthsD,DaD.enc,CoD.enc,TyD.encs]
theorem c172 (sto:Sto):CF kd (.fn 172) [] sto=some (.ret (.val truthsD.enc),sto):=by
 rw[truthsD_enc];apply tA;rfl;rfl;exact Tryz.func172;rfl;rfl;simp only[go_sem];rfl;refine tQ ?_;repeat first|with_reducible constructor|(with_reducible apply tG);kernel_rfl;intro _ _;(repeat apply tOp;intro _;simp only[setElems,clean,flat,AVal.cells,List.all_cons,List.all_nil,List.replicate,List.set_cons_zero,List.set_cons_succ,List.set_nil,go_sem];rfl);rfl;simp only[go_sem];rfl
 exact fin0 rfl
theorem bltS (n:Nat):Nat.blt n n=false:=by
 simp only[Nat.blt];exact Bool.eq_false_iff.2 fun h=>by have:=Nat.le_of_ble_eq_true h;omega
theorem finV {P:Program} {an:Ann} {fn:Func} {n:Nat} {tm:List Slot} {sto:Sto} {v:AVal} {t:Nat} (h1:an.ownRes=false) (h2:fn.results.toList=[.tmp t]) (h3:tlook an.keep tm t=.val v) (h4:lok n v=false):finish P an fn n ⟨tm,sto⟩=some (.ret (.val v),sto):=by
 simp only[finish,h1,h2,resK,h3,asV,trim,slotLok,h4,cond_false]
theorem c160 (xs:List AVal) (sto:Sto):CF kd (.fn 160) [.val (.slice xs)] sto=some (.ret (.val (.func 171 [.loc sto.objs.length 0])),⟨sto.objs++[.box [.val (.slice xs)]],sto.lo⟩):=by
 apply tA;rfl;rfl;exact Tryz.func160;rfl;rfl;simp only[go_sem];rfl;refine tQ ?_;repeat first|with_reducible constructor|(with_reducible apply tG);kernel_rfl;intro _ _;(repeat apply tOp;intro _;simp only[go_sem];rfl);rfl;simp only[go_sem];rfl
 refine finV (t:=2) rfl rfl rfl ?_;simp only[lok,List.all_cons,lokF,bltS,Bool.false_and]
theorem loop171 {i:Nat} {Inv:Sto→Prop} (ys:List DaD):∀ (pre:List DaD) (S S':Sto) (b:Bool),(pre++ys).length < big→Yields (CF kd) i Inv (ys.map DaD.enc) S S' b →
  ∃ s1 s4 s8 s9 s10 s11 s12 s18,LP kd 171 (loopOf Tryz.f171 0) ⟨[.val (.yld i),.dead,.dead,.dead,.val (.slice ((pre++ys).map DaD.enc)),.val (.int .i64 ((pre++ys).length:Nat)),.val (.int .i64 (pre.length:Nat)),.dead,.dead],S⟩=some (bif b then .exit 0 else .ret,⟨[.val (.yld i),s1,s4,s8,s9,s10,s11,s12,s18],S'⟩):=by
 induction ys with
 |nil =>
  intro pre S S' b h3 hY;have hlt:=geI pre;cases hY;iterate 8 apply Exists.intro
  refine tJ rfl ?_;repeat first|with_reducible constructor|(with_reducible apply tG);kernel_rfl;intro _ _;(repeat apply tOp;intro _;simp only[go_sem];rfl);rfl;simp only[go_sem];rfl|(with_reducible apply t0);rfl;trivial
  exact tlX
 |cons y ys ih =>
  intro pre S S' b h3 hY;have hget:=getI DaD.enc pre ys y;have hlt:=ltI pre ys y;have h0:=zI pre.length;have hw:=wL pre ys y h3;rw[List.map_cons] at hY;rw[y.enc_eq] at hget hY;cases hY with
  |stop h hi =>
   iterate 8 apply Exists.intro
   refine tJ rfl ?_;repeat first|with_reducible constructor|(with_reducible apply tG);kernel_rfl;intro _ _;(repeat apply tOp;intro _;simp only[hget,h0,h,go_sem];rfl);rfl;simp only[go_sem];rfl|(with_reducible apply t1);rfl;trivial
   exact tlE
  |more h hi hY =>
   obtain ⟨s1,s4,s8,s9,s10,s11,s12,s18,ih⟩:=ih (pre++[y]) _ _ _ (by simpa using h3) hY;simp only[List.append_assoc,List.singleton_append] at ih;refine ⟨s1,s4,s8,s9,s10,s11,s12,s18,?_⟩;refine tJ rfl ?_;repeat first|with_reducible constructor|(with_reducible apply tG);kernel_rfl;intro _ _;(repeat apply tOp;intro _;simp only[hget,h0,h,hw,go_sem];rfl);rfl;simp only[go_sem];rfl|(with_reducible apply t1);rfl;trivial|(with_reducible apply t0);rfl;trivial
   exact ih
theorem yields_len {cf:Oracle} {i n:Nat} {Inv:Sto→Prop} (hI:∀ T,Inv T→T.objs.length=n) {xs:List AVal} {S S':Sto} {b:Bool} (h:Yields cf i Inv xs S S' b):S.objs.length=n→S'.objs.length=n:=by
 induction h with
 |nil=>exact id
 |stop _ h=>exact fun _=>hI _ h
 |more _ h _ ih=>exact fun _=>ih (hI _ h)
theorem c171 {i j:Nat} {ds:List DaD} {Inv:Sto→Prop} (hd:ds.length < big) {S S':Sto} {b:Bool} (h0:Inv S) (hI:∀ T,Inv T→T.objs.length=S.objs.length∧T.objs[j]?=some (.box [.val (.slice (ds.map DaD.enc))])) (hY:Yields (CF kd) i Inv ((truthsD::ds).map DaD.enc) S S' b) :
  CF kd (.fn 171) [.val (.yld i),.val (.loc j 0)] S=some (.ret (.tup []),S'):=by
 have ht:=c172 (kd:=kd) S;rw[List.map_cons] at hY;rw[truthsD_enc] at hY ht;cases hY with
 |stop h hi =>
  apply tA;rfl;rfl;exact Tryz.func171;rfl;rfl;simp only[go_sem];rfl;refine tQ ?_;repeat first|with_reducible constructor|(with_reducible apply tG);kernel_rfl;intro _ _;(repeat apply tOp;intro _;simp only[ht,h,go_sem];rfl);rfl;simp only[go_sem];rfl|(with_reducible apply t1);rfl;trivial
  exact fin3 (hI _ hi).1 rfl
 |more h hi hY =>
  have hb:=(hI _ hi).2;obtain ⟨s1,s4,s8,s9,s10,s11,s12,s18,h2⟩:=loop171 (kd:=kd) ds [] _ _ _ (by simpa using hd) hY;simp only[List.nil_append,List.length_nil] at h2;have e0:((0:Nat):Int)=0:=rfl;rw[e0] at h2;have hS:S'.objs.length=S.objs.length:=yields_len (fun T hT=>(hI T hT).1) hY (hI _ hi).1;apply tA;rfl;rfl;exact Tryz.func171;rfl;rfl;simp only[go_sem];rfl;refine tQ ?_;repeat first|with_reducible constructor|(with_reducible apply tG);kernel_rfl;intro _ _;(repeat apply tOp;intro _;simp only[ht,h,hb,List.length_map,go_sem];rfl);rfl;simp only[go_sem];rfl|(with_reducible apply t0);rfl;trivial
  apply tL;exact h2;cases b with
  |true =>
   refine tQ ?_;repeat first|with_reducible constructor|(with_reducible apply tG);kernel_rfl;intro _ _;(repeat apply tOp;intro _;simp only[go_sem];rfl);rfl;simp only[go_sem];rfl
   exact fin3 hS rfl
  |false =>
   refine tQ ?_;repeat first|with_reducible constructor|(with_reducible apply tG);kernel_rfl;intro _ _;(repeat apply tOp;intro _;simp only[go_sem];rfl);rfl;simp only[go_sem];rfl
   exact fin3 hS rfl
def findD (ds:List DaD) (n:List UInt8):Option DaD:=(truthsD::ds).find? (fun d=>d.name==n)
def zeroDa:DaD:=⟨[],[],[]⟩
theorem zeroDa_enc:zeroDa.enc=.agg [.str [],.slice [],.slice []]:=rfl
theorem yields_find {cf:Oracle} {i:Nat} {Inv:Sto→Prop} {α:Type} {enc:α→AVal} {p:α→Bool} {S:Sto} {S':α→Sto} (hS:Inv S) (hS':∀ x,Inv (S' x)):∀ {l:List α},
  (∀ x∈l,p x=false→cf (.yld i) [.val (enc x)] S=some (.ret (.val (.bool true)),S))→(∀ x∈l,p x=true→cf (.yld i) [.val (enc x)] S=some (.ret (.val (.bool false)),S' x)) →
  (match l.find? p with|none=>Yields cf i Inv (l.map enc) S S true|some x=>Yields cf i Inv (l.map enc) S (S' x) false)
 |[],_,_=>.nil
 |x::l,hf,ht=>by
  have ih:=yields_find (l:=l) hS hS' (fun y hy=>hf y (by simp [hy])) (fun y hy=>ht y (by simp [hy]));rw[List.find?_cons];cases hp:p x with
  |true=>exact .stop (ht x (by simp) hp) (hS' x)
  |false =>
   cases hq:l.find? p with
   |none=>rw[hq] at ih;exact .more (hf x (by simp) hp) hS ih
   |some y=>rw[hq] at ih;exact .more (hf x (by simp) hp) hS ih
theorem y113 {nm:List UInt8} {d:DaD} {O:List AObj} {lo:Nat} (hlo:lo≤O.length) {c1 c2 c3 c4:Cell} {c:AObj} {s0 s1 s6 s8 s9 s13} :
  CF kd (.yld (O.length+4)) [.val d.enc] ⟨O++[.box [.val (.str nm)],.box [c1,c2,c3],.box [c4],c,.loop (rloop 113 Tryz.f113 0 [s0,s1,.val (.loc O.length 0),.val (.loc (O.length+1) 0),.val (.loc (O.length+2) 0),s6,s8,s9,s13] none .ready)],lo⟩ =
   bif d.name==nm then some (.ret (.val (.bool false)),⟨O++[.box [.val (.str nm)],.box (d.enc.cells.map .val),.box [.val (.bool true)],c,.loop (rloop 113 Tryz.f113 0 [s0,s1,.val (.loc O.length 0),.val (.loc (O.length+1) 0),.val (.loc (O.length+2) 0),s6,s8,s9,s13] (some .ret) .done)],lo⟩)
   else some (.ret (.val (.bool true)),⟨O++[.box [.val (.str nm)],.box [c1,c2,c3],.box [c4],c,.loop (rloop 113 Tryz.f113 0 [s0,s1,.val (.loc O.length 0),.val (.loc (O.length+1) 0),.val (.loc (O.length+2) 0),s6,s8,s9,s13] none .ready)],lo⟩):=by
 have hb1:Nat.ble lo (O.length+1)=true:=Nat.ble_eq_true_of_le (by omega);have hb2:Nat.ble lo (O.length+2)=true:=Nat.ble_eq_true_of_le (by omega);rw[d.enc_eq];cases hp:(d.name==nm) with
 |true =>
  simp only[cond_true];apply tY
  ·(simp only[FL,FO,Nat.reduceAdd];try rfl)
  ·rfl
  ·kernel_rfl
  ·first|assumption|(apply Nat.ble_eq_true_of_le;(try simp only[FL,FO,Nat.reduceAdd]);omega)
  ·(simp only[setParams,List.zip,List.zipWith,List.reverse_cons,List.reverse_nil,go_sem];rfl)
  refine tQ ?_;repeat first|with_reducible constructor|(with_reducible apply tG);kernel_rfl;intro _ _;(repeat apply tOp;intro _;simp only[FL,FO,Nat.reduceAdd,go_sem,Nat.reduceAdd];rfl);rfl;simp only[go_sem];rfl
  apply ty1
  ·(simp only[FL,FO,Nat.reduceAdd];try rfl)
  ·(simp only[FL,FO,Nat.reduceAdd];try rfl)
  refine tQ ?_;repeat first|with_reducible constructor|(with_reducible apply tG);kernel_rfl;intro _ _;(repeat apply tOp;intro _;simp only[FL,FO,hb1,hb2,go_sem,Nat.reduceAdd];rfl);rfl;simp only[go_sem];rfl|(with_reducible apply t1);rfl;trivial
  apply ty2r
  ·(simp only[FL,FO,Nat.reduceAdd];try rfl)
  ·(simp only[FL,FO,Nat.reduceAdd];try rfl)
 |false =>
  simp only[cond_false];apply tY
  ·(simp only[FL,FO,Nat.reduceAdd];try rfl)
  ·rfl
  ·kernel_rfl
  ·first|assumption|(apply Nat.ble_eq_true_of_le;(try simp only[FL,FO,Nat.reduceAdd]);omega)
  ·(simp only[setParams,List.zip,List.zipWith,List.reverse_cons,List.reverse_nil,go_sem];rfl)
  refine tQ ?_;repeat first|with_reducible constructor|(with_reducible apply tG);kernel_rfl;intro _ _;(repeat apply tOp;intro _;simp only[FL,FO,Nat.reduceAdd,go_sem,Nat.reduceAdd];rfl);rfl;simp only[go_sem];rfl
  apply ty1
  ·(simp only[FL,FO,Nat.reduceAdd];try rfl)
  ·(simp only[FL,FO,Nat.reduceAdd];try rfl)
  refine tQ ?_;repeat first|with_reducible constructor|(with_reducible apply tG);kernel_rfl;intro _ _;(repeat apply tOp;intro _;simp only[FL,FO,go_sem,Nat.reduceAdd];rfl);rfl;simp only[go_sem];rfl|(with_reducible apply t0);rfl;trivial
  apply ty2n
  ·(simp only[FL,FO,Nat.reduceAdd];try rfl)
  ·(simp only[FL,FO,Nat.reduceAdd];try rfl)
theorem c171f {i j:Nat} {ds:List DaD} (hd:ds.length < big) {p:DaD→Bool} {S:Sto} {S':DaD→Sto} (hb:S.objs[j]?=some (.box [.val (.slice (ds.map DaD.enc))])) (hS:∀ x,(S' x).objs.length=S.objs.length∧(S' x).objs[j]?=some (.box [.val (.slice (ds.map DaD.enc))]))
  (hf:∀ x,p x=false→CF kd (.yld i) [.val x.enc] S=some (.ret (.val (.bool true)),S)) (ht:∀ x,p x=true→CF kd (.yld i) [.val x.enc] S=some (.ret (.val (.bool false)),S' x)) :
  CF kd (.fn 171) [.val (.yld i),.val (.loc j 0)] S=some (.ret (.tup []),match (truthsD::ds).find? p with|none=>S|some x=>S' x):=by
 have h:=yields_find (cf:=CF kd) (i:=i) (Inv:=fun T=>T.objs.length=S.objs.length∧T.objs[j]?=some (.box [.val (.slice (ds.map DaD.enc))])) (enc:=DaD.enc) (p:=p) (S:=S) (S':=S') ⟨rfl,hb⟩ hS (l:=truthsD::ds) (fun x _=>hf x) (fun x _=>ht x);cases hq:(truthsD::ds).find? p with
 |none=>rw[hq] at h;exact c171 hd ⟨rfl,hb⟩ (fun T hT=>hT) h
 |some x=>rw[hq] at h;exact c171 hd ⟨rfl,hb⟩ (fun T hT=>hT) h
theorem finC2 {P:Program} {an:Ann} {fn:Func} {n:Nat} {tm:List Slot} {sto:Sto} {a b:AVal} {rs:List ResultVar} (h1:an.ownRes=false) (h2:fn.results.toList=rs) (h3:∀ k:List AVal→Option (ARes×Sto),resK P an tm rs sto k=k [a,b]) (h4:slotLok n (.tup [a,b])=true) :
  finish P an fn n ⟨tm,sto⟩=some (.ret (.tup [a,b]),⟨sto.objs.take n,sto.lo⟩):=by
 simp only[finish,h1,h2,h3,trim,h4,cond_true]
theorem c113 (ds:List DaD) (hd:ds.length < big) (nm:List UInt8) (sto:Sto) (hlo:sto.lo≤sto.objs.length) :
  CF kd (.fn 113) [.val (.slice (ds.map DaD.enc)),.val (.str nm)] sto=some (.ret (.tup [((findD ds nm).getD zeroDa).enc,.bool (findD ds nm).isSome]),sto):=by
 have h1:=fun s=>c160 (kd:=kd) (ds.map DaD.enc) s
 have hb1:Nat.ble sto.lo (sto.objs.length+1)=true:=Nat.ble_eq_true_of_le (by omega);have hb2:Nat.ble sto.lo (sto.objs.length+2)=true:=Nat.ble_eq_true_of_le (by omega)
 have hc:=fun s0 s1 s6 s8 s9 s13=>c171f (kd:=kd) (i:=sto.objs.length+4) (j:=sto.objs.length+3) hd (p:=fun d=>d.name==nm)
  (S:=⟨sto.objs++[.box [.val (.str nm)],.box [.val (.str []),.own 1 [],.own 2 []],.box [.val (.bool false)],.box [.val (.slice (ds.map DaD.enc))],.loop (rloop 113 Tryz.f113 0 [s0,s1,.val (.loc sto.objs.length 0),.val (.loc (sto.objs.length+1) 0),.val (.loc (sto.objs.length+2) 0),s6,s8,s9,s13] none .ready)],sto.lo⟩)
  (S':=fun d=>⟨sto.objs++[.box [.val (.str nm)],.box (d.enc.cells.map .val),.box [.val (.bool true)],.box [.val (.slice (ds.map DaD.enc))],.loop (rloop 113 Tryz.f113 0 [s0,s1,.val (.loc sto.objs.length 0),.val (.loc (sto.objs.length+1) 0),.val (.loc (sto.objs.length+2) 0),s6,s8,s9,s13] (some .ret) .done)],sto.lo⟩)
  (by simp only[FL,FO,Nat.reduceAdd]) (fun x=>⟨by simp only[FL,FO,Nat.reduceAdd],by simp only[FL,FO,Nat.reduceAdd]⟩) (fun x hx=>by rw[y113 hlo,hx];rfl) (fun x hx=>by rw[y113 hlo,hx];rfl)
 apply tA;rfl;rfl;exact Tryz.func113;rfl;rfl;simp only[go_sem];rfl;refine tQ ?_;repeat first|with_reducible constructor|(with_reducible apply tG);kernel_rfl;intro _ _;(repeat apply tOp;intro _;simp only[h1,FL,FO,Nat.reduceAdd,go_sem,Nat.reduceAdd];rfl);rfl;simp only[go_sem];rfl
 simp only[findD];cases hq:(truthsD::ds).find? (fun d=>d.name==nm) with
 |none =>
  rw[hq] at hc;apply tGn
  ·rfl
  ·simp only[FL,FO,Nat.reduceAdd]
   exact hc _ _ _ _ _ _
  ·simp only[FL,FO,Nat.reduceAdd]
   rfl
  ·simp only[FL,FO,Nat.reduceAdd]
   rfl
  refine tQ ?_;repeat first|with_reducible constructor|(with_reducible apply tG);kernel_rfl;intro _ _;(repeat apply tOp;intro _;simp only[FL,FO,Nat.reduceAdd,hb1,hb2,go_sem,Nat.reduceAdd];rfl);rfl;simp only[go_sem];rfl
  refine finE _ (finC2 rfl rfl ?_ rfl);show ∀ k:List AVal→Option (ARes×Sto),resK _ _ _ [.cell 4 116,.cell 5 4] _ k=_;intro k;simp only[FL,FO,Nat.reduceAdd,resK,go_sem,Nat.reduceAdd];rfl
 |some d =>
  rw[hq] at hc;apply tGr
  ·rfl
  ·simp only[FL,FO,Nat.reduceAdd]
   exact hc _ _ _ _ _ _
  ·simp only[FL,FO,Nat.reduceAdd]
   rfl
  ·simp only[FL,FO,Nat.reduceAdd]
   rfl
  refine tQ ?_;repeat first|with_reducible constructor|(with_reducible apply tG);kernel_rfl;intro _ _;(repeat apply tOp;intro _;simp only[FL,FO,Nat.reduceAdd,hb1,hb2,go_sem,Nat.reduceAdd];rfl);rfl;simp only[go_sem];rfl
  refine finE _ (finC2 rfl rfl ?_ rfl);simp only[d.enc_eq,cAgg,List.map_cons,List.map_nil,Option.getD_some];show ∀ k:List AVal→Option (ARes×Sto),resK _ _ _ [.cell 4 116,.cell 5 4] _ k=_;intro k;simp only[FL,FO,Nat.reduceAdd,resK,go_sem,Nat.reduceAdd];rfl
end Go.Proofs.YtkmnkiekmlcfdaaGreatDoor
