/- Part E14 of the proof of one law of the program. -/
import Derived.Test.YtkmnkiekmlcfdaaGreatDoorE13
set_option linter.all false
set_option linter.unusedVariables false
set_option linter.unusedSimpArgs false
set_option linter.unusedSectionVars false
set_option linter.unnecessarySimpa false
namespace Go.Proofs.YtkmnkiekmlcfdaaGreatDoor
open Go.AM
attribute [local go_sem] opsK oneK stepK callK argsA capsA elemsA mvK mv asV asSl AM.asInt AM.asBool asPlace asBox asObj asMap cellsOfPlace writePlace asCells optInt sliceCut drawnPlace opS RS.look RS.put RS.putO alook tlook commit persist constS constT absV absC dstOk noRefTo guardB abin abinT isNilSlice isNilIface nilTest Nat.beq Nat.ble Nat.blt cond_true cond_false Bool.and_true Bool.true_and Bool.and_self Bool.not_true Bool.not_false Bool.or_true Bool.or_false Bool.false_or Bool.true_or Bool.and_false Bool.false_and List.all_nil List.all_cons List.contains List.elem Option.bind_some Option.map_some Option.getD_some cAgg cInt cBool cStr cSlice cFunc cNilf cNilp cNilm cLoc cMap cYld List.take_succ_cons List.take_zero List.drop_zero List.drop_succ_cons Nat.zero_add Cell.get Cell.lok AM.lok lokF noRefS partOf List.map_nil List.map_cons List.length_cons List.length_nil List.getElem?_cons_zero List.getElem?_cons_succ List.nil_append List.cons_append List.append_nil List.getElem?_toArray List.toList_toArray Option.bind_none Option.map_none objs1 objs2 objs3 objs32 oset1 setCells List.take_append_drop List.drop_nil List.take_nil an97 Tryz.underlying0 sz3 ag3 zo3 by3 Tryz.underlying3 sz4 ag4 zo4 zc4 Tryz.underlying4 sz9 ag9 zo9 by9 Tryz.underlying9 sz22 ag22 Tryz.underlying22 sz23 ag23 se23 Tryz.underlying23 sz25 ag25 zo25 zc25 by25 Tryz.underlying25 pl25 sz26 ag26 se26 zo26 by26 Tryz.underlying26 sz30 ag30 zo30 zc30 by30 Tryz.underlying30 pl30 sz58 ag58 se58 Tryz.underlying58 sz61 ag61 zo61 zc61 by61 Tryz.underlying61 pl61 sz72 ag72 se72 Tryz.underlying72 sz116 ag116 zc116 Tryz.underlying116 pl116 Tryz.underlying138 sz140 ag140 se140 Tryz.underlying140 sz145 ag145 zc145 Tryz.underlying145 Tryz.underlying174 fd30_0 fd30_1 fd61_0
set_option maxRecDepth 100000
set_option maxHeartbeats 1000000
variable {kd:List UInt8→Int}
def rowsL (rs:List Row):List (List PaD):=rs.map fun r=>r.1::r.2
theorem rowsL_enc (rs:List Row):(rowsL rs).map rowE=rs.map Row.enc:=by simp [rowsL,rowE,Row.enc]
structure Bnd (c:CoD) (ts:List TyD) (qt:List PaD) (rows:List Row) (x:Option (List PaD)):Prop where
 b0:c.args.length≤16
 b1:c.args.length+qt.length < big
 b2:c.args.length+ts.length < big
 b4:∀ y∈rows,c.args.length+y.2.length < big
 b5:∀ l,x=some l→c.args.length≤l.length∧l.length+1 < big
inductive Srch (ds:List DaD):List TyD→List PaD→List (List PaD)→Option (List PaD)→Prop
 |done {ts rows}:Srch ds ts [] rows (if ((rows.length:Nat):Int)==0 then some [] else none)
 |free {ts q0 qt}:qt.length+1 < big→Srch ds ts (q0::qt) [] (some (q0::qt))
 |conN {t ts q0 qt r rs}:rs.length+2 < big→(q0.kind==3)=true→(consD ds t).find? (fun c=>c.name==q0.name)=none→Srch ds (t::ts) (q0::qt) (rowsL (r::rs)) none
 |con {t ts q0 qt r rs c x}:rs.length+2 < big→(q0.kind==3)=true→(consD ds t).find? (fun c=>c.name==q0.name)=some c→Bnd c ts qt (r::rs) x→(∀ f,fieldsD q0 c=some f→Srch ds (c.args++ts) (f++qt) (under c (r::rs)) x)→Srch ds (t::ts) (q0::qt) (rowsL (r::rs)) (oneR (q0,qt) c x)
 |all {t ts q0 qt r rs} {X:CoD→Option (List PaD)}:rs.length+2 < big→(q0.kind==3)=false→missD (headsD [] (r::rs)) ((((consD ds t).length:Nat):Int)==0) (consD ds t)=false→(∀ c∈consD ds t,Bnd c ts qt (r::rs) (X c))→(∀ c∈consD ds t,∀ f,fieldsD q0 c=some f→Srch ds (c.args++ts) (f++qt) (under c (r::rs)) (X c)) →
   Srch ds (t::ts) (q0::qt) (rowsL (r::rs)) ((consD ds t).findSome? fun c=>oneR (q0,qt) c (X c))
 |rest {t ts q0 qt r rs x}:rs.length+2 < big→(∀ c∈consD ds t,c.args.length≤16)→(q0.kind==3)=false→missD (headsD [] (r::rs)) ((((consD ds t).length:Nat):Int)==0) (consD ds t)=true→(∀ l,x=some l→l.length+1 < big)→Srch ds ts qt (restD (r::rs)) x →
   Srch ds (t::ts) (q0::qt) (rowsL (r::rs)) (x.map fun l=>beginD (consD ds t) (headsD [] (r::rs))::l)
theorem c150 (l:List PaD) (hl:l.length < big) (sto:Sto):CF kd (.fn 150) [.val (.slice (l.map PaD.enc))] sto=some (.ret (.val (.slice (l.map PaD.enc))),sto):=fnP (r:=.ret (.val (.slice (l.map PaD.enc)))) (by
 have h:rowsOk 3 (l.map PaD.enc)=true:=by
  simp only[rowsOk,all3,List.length_map,Bool.true_and]
  apply Nat.ble_eq_true_of_le;simp only[room];simp only[big] at hl;omega
 show (bif rowsOk 3 (l.map PaD.enc) then _ else _)=_
 rw[h];rfl) rfl
theorem eqS1 (n:Nat):((((n+1:Nat):Int)==0):Bool)=false:=by simp;omega
theorem eq00:(((0:Nat):Int)==0)=true:=rfl
theorem tLab {P:Program} {ans:FuncId→Ann} {cf:Oracle} {lp:LpOracle} {f:FuncId} {R:Type} {K:AExit→St→Option R} {st:St} {r:R} {i:Nat} (h:K .norm st=some r):XK P ans cf lp f (.label i) st K=some r:=h
theorem c97 {ds:List DaD} (h:DsOk ds) {ts:List TyD} {q:List PaD} {rows:List (List PaD)} {r:Option (List PaD)} (hs:Srch ds ts q rows r):∀ (S:Sto),S.lo≤S.objs.length →
  CF kd (.fn 97) [.val (.slice (ds.map DaD.enc)),.val (.slice (ts.map TyD.enc)),.val (.slice (q.map PaD.enc)),.val (.slice (rows.map rowE))] S=some (.ret (resS r),S):=by
 induction hs with
 |@done ts rows =>
  intro S hlo
  simp only[resS,List.map_nil]
  cases g:(((rows.length:Nat):Int)==0) with
  |true =>
   simp only[if_true,Option.getD_some,Option.isSome_some,List.map_nil]
   apply tA
   ·rfl
   ·rfl
   ·exact Tryz.func97
   ·rfl
   ·rfl
   ·simp only[go_sem,Nat.reduceAdd,reduceIte];rfl
   refine tQ ?_;repeat first|with_reducible constructor|(with_reducible apply tG);kernel_rfl;intro _ _;(repeat apply tOp;intro _;simp only[List.append_assoc,List.length_append,List.length_cons,List.length_nil,List.cons_append,List.nil_append,objK,obj0,setK,set0,takeK,List.take_zero,List.take_succ_cons,List.set_cons_zero,List.set_cons_succ,List.getElem?_cons_zero,List.getElem?_cons_succ,Nat.reduceAdd,Nat.zero_add,eq00,Nat.add_zero,go_sem,Nat.reduceAdd,reduceIte];rfl);rfl;simp only[go_sem];rfl
   with_reducible apply tT
   ·simp only[go_sem];rfl
   ·rfl
   refine tQ ?_;repeat first|with_reducible constructor|(with_reducible apply tG);kernel_rfl;intro _ _;(repeat apply tOp;intro _;simp only[List.append_assoc,List.length_append,List.length_cons,List.length_nil,List.cons_append,List.nil_append,objK,obj0,setK,set0,takeK,List.take_zero,List.take_succ_cons,List.set_cons_zero,List.set_cons_succ,List.getElem?_cons_zero,List.getElem?_cons_succ,Nat.reduceAdd,Nat.zero_add,g,List.length_map,Nat.add_zero,go_sem,Nat.reduceAdd,reduceIte];rfl);rfl;simp only[go_sem];rfl
   exact finE [_,_,_,_] rfl
  |false =>
   simp only[Bool.false_eq_true,if_false,Option.getD_none,Option.isSome_none,List.map_nil]
   apply tA
   ·rfl
   ·rfl
   ·exact Tryz.func97
   ·rfl
   ·rfl
   ·simp only[go_sem,Nat.reduceAdd,reduceIte];rfl
   refine tQ ?_;repeat first|with_reducible constructor|(with_reducible apply tG);kernel_rfl;intro _ _;(repeat apply tOp;intro _;simp only[List.append_assoc,List.length_append,List.length_cons,List.length_nil,List.cons_append,List.nil_append,objK,obj0,setK,set0,takeK,List.take_zero,List.take_succ_cons,List.set_cons_zero,List.set_cons_succ,List.getElem?_cons_zero,List.getElem?_cons_succ,Nat.reduceAdd,Nat.zero_add,eq00,Nat.add_zero,go_sem,Nat.reduceAdd,reduceIte];rfl);rfl;simp only[go_sem];rfl
   with_reducible apply tT
   ·simp only[go_sem];rfl
   ·rfl
   refine tQ ?_;repeat first|with_reducible constructor|(with_reducible apply tG);kernel_rfl;intro _ _;(repeat apply tOp;intro _;simp only[List.append_assoc,List.length_append,List.length_cons,List.length_nil,List.cons_append,List.nil_append,objK,obj0,setK,set0,takeK,List.take_zero,List.take_succ_cons,List.set_cons_zero,List.set_cons_succ,List.getElem?_cons_zero,List.getElem?_cons_succ,Nat.reduceAdd,Nat.zero_add,g,List.length_map,Nat.add_zero,go_sem,Nat.reduceAdd,reduceIte];rfl);rfl;simp only[go_sem];rfl
   exact finE [_,_,_,_] rfl
 |@free ts q0 qt hqb =>
  intro S hlo
  have hc:=fun s=>c150 (kd:=kd) (q0::qt) (by simpa using hqb) s
  simp only[List.map_cons] at hc
  simp only[resS,List.map_nil,List.map_cons,Option.getD_some,Option.isSome_some]
  apply tA
  ·rfl
  ·rfl
  ·exact Tryz.func97
  ·rfl
  ·rfl
  ·simp only[go_sem,Nat.reduceAdd,reduceIte];rfl
  refine tQ ?_;repeat first|with_reducible constructor|(with_reducible apply tG);kernel_rfl;intro _ _;(repeat apply tOp;intro _;simp only[List.append_assoc,List.length_append,List.length_cons,List.length_nil,List.cons_append,List.nil_append,objK,obj0,setK,set0,takeK,List.take_zero,List.take_succ_cons,List.set_cons_zero,List.set_cons_succ,List.getElem?_cons_zero,List.getElem?_cons_succ,Nat.reduceAdd,Nat.zero_add,Nat.add_zero,List.length_map,go_sem,Nat.reduceAdd,reduceIte];rfl);rfl;simp only[go_sem];rfl
  with_reducible apply tF
  ·simp only[go_sem];rfl
  ·exact eqS1 _
  refine tQ ?_;repeat first|with_reducible constructor|(with_reducible apply tG);kernel_rfl;intro _ _;(repeat apply tOp;intro _;simp only[List.append_assoc,List.length_append,List.length_cons,List.length_nil,List.cons_append,List.nil_append,objK,obj0,setK,set0,takeK,List.take_zero,List.take_succ_cons,List.set_cons_zero,List.set_cons_succ,List.getElem?_cons_zero,List.getElem?_cons_succ,Nat.reduceAdd,Nat.zero_add,Nat.add_zero,eq00,go_sem,Nat.reduceAdd,reduceIte];rfl);rfl;simp only[go_sem];rfl
  with_reducible apply tT
  ·simp only[go_sem];rfl
  ·rfl
  refine tQ ?_;repeat first|with_reducible constructor|(with_reducible apply tG);kernel_rfl;intro _ _;(repeat apply tOp;intro _;simp only[List.append_assoc,List.length_append,List.length_cons,List.length_nil,List.cons_append,List.nil_append,objK,obj0,setK,set0,takeK,List.take_zero,List.take_succ_cons,List.set_cons_zero,List.set_cons_succ,List.getElem?_cons_zero,List.getElem?_cons_succ,Nat.reduceAdd,Nat.zero_add,hc,Nat.add_zero,go_sem,Nat.reduceAdd,reduceIte];rfl);rfl;simp only[go_sem];rfl
  exact finE [_,_,_,_] rfl
 |@conN t ts q0 qt r rs hb hk hn =>
  intro S hlo
  have e0:((0:Nat):Int)=0:=rfl
  have hcl:=consD_len h t
  have h73:=c73 (kd:=kd) h t ⟨S.objs++[.box [.val (.slice (ds.map DaD.enc))],.box [.val (.slice (.agg [.str t.name,.slice (t.args.map TyD.enc)]::ts.map TyD.enc))],.box [.val (.slice (.agg [.int .i64 q0.kind,.str q0.name,.slice (q0.args.map PaD.enc)]::qt.map PaD.enc))],.box [.val (.slice (Row.enc r::rs.map Row.enc))]],S.lo⟩ (by simp;omega)
  rw[t.enc_eq] at h73
  obtain ⟨s0,s1,s2,s3,s8,s9,s13,s14,s16,s17,s18,s20,s22,s23,s24,s25,s27,s28,s29,s32,s38,s47,s48,s49,s50,s57,s69,s70,s71,s72,s73,s82,s92,s93,s94,s95,s108,s109,s110,s111,s112,s122,s125,s126,s127,s128,s134,s152,l0⟩:=loop97a (kd:=kd) (O:=S.objs) (lo:=S.lo) hlo (.box [.val (.slice (ds.map DaD.enc))]) (.box [.val (.slice (.agg [.str t.name,.slice (t.args.map TyD.enc)]::ts.map TyD.enc))]) (.box [.val (.slice (.agg [.int .i64 q0.kind,.str q0.name,.slice (q0.args.map PaD.enc)]::qt.map PaD.enc))]) (.box [.val (.slice (Row.enc r::rs.map Row.enc))]) (.val (.loc S.objs.length 0)) (.val (.loc (S.objs.length+1) 0)) (.val (.loc (S.objs.length+2) 0)) (.val (.loc (S.objs.length+3) 0)) (.val (.slice ((consD ds t).map CoD.enc))) (r::rs) [] [] (by simp;omega)
  simp only[List.nil_append,List.length_nil,seen_nil,List.map_cons,List.length_cons] at l0
  rw[e0] at l0
  have hqq:(⟨S.objs++[.box [.val (.slice (ds.map DaD.enc))],.box [.val (.slice (.agg [.str t.name,.slice (t.args.map TyD.enc)]::ts.map TyD.enc))],.box [.val (.slice (.agg [.int .i64 q0.kind,.str q0.name,.slice (q0.args.map PaD.enc)]::qt.map PaD.enc))],.box [.val (.slice (Row.enc r::rs.map Row.enc))],.map (seenE (headsD [] (r::rs)))],S.lo⟩:Sto).objs[S.objs.length+2]?=some (.box [.val (Row.enc (q0,qt))]):=by simp only[List.append_assoc,List.length_append,List.length_cons,List.length_nil,List.cons_append,List.nil_append,objK,obj0,setK,set0,takeK,List.take_zero,List.take_succ_cons,List.set_cons_zero,List.set_cons_succ,List.getElem?_cons_zero,List.getElem?_cons_succ,Nat.reduceAdd,Nat.zero_add,Row.enc_eq]
  have hrr:(⟨S.objs++[.box [.val (.slice (ds.map DaD.enc))],.box [.val (.slice (.agg [.str t.name,.slice (t.args.map TyD.enc)]::ts.map TyD.enc))],.box [.val (.slice (.agg [.int .i64 q0.kind,.str q0.name,.slice (q0.args.map PaD.enc)]::qt.map PaD.enc))],.box [.val (.slice (Row.enc r::rs.map Row.enc))],.map (seenE (headsD [] (r::rs)))],S.lo⟩:Sto).objs[S.objs.length+3]?=some (.box [.val (.slice ((r::rs).map Row.enc))]):=by simp only[List.append_assoc,List.length_append,List.length_cons,List.length_nil,List.cons_append,List.nil_append,objK,obj0,setK,set0,takeK,List.take_zero,List.take_succ_cons,List.set_cons_zero,List.set_cons_succ,List.getElem?_cons_zero,List.getElem?_cons_succ,Nat.reduceAdd,Nat.zero_add,List.map_cons]
  have hdd:(⟨S.objs++[.box [.val (.slice (ds.map DaD.enc))],.box [.val (.slice (.agg [.str t.name,.slice (t.args.map TyD.enc)]::ts.map TyD.enc))],.box [.val (.slice (.agg [.int .i64 q0.kind,.str q0.name,.slice (q0.args.map PaD.enc)]::qt.map PaD.enc))],.box [.val (.slice (Row.enc r::rs.map Row.enc))],.map (seenE (headsD [] (r::rs)))],S.lo⟩:Sto).objs[S.objs.length]?=some (.box [.val (.slice (ds.map DaD.enc))]):=by simp only[List.append_assoc,List.length_append,List.length_cons,List.length_nil,List.cons_append,List.nil_append,objK,obj0,setK,set0,takeK,List.take_zero,List.take_succ_cons,List.set_cons_zero,List.set_cons_succ,List.getElem?_cons_zero,List.getElem?_cons_succ,Nat.reduceAdd,Nat.zero_add]
  have htt:(⟨S.objs++[.box [.val (.slice (ds.map DaD.enc))],.box [.val (.slice (.agg [.str t.name,.slice (t.args.map TyD.enc)]::ts.map TyD.enc))],.box [.val (.slice (.agg [.int .i64 q0.kind,.str q0.name,.slice (q0.args.map PaD.enc)]::qt.map PaD.enc))],.box [.val (.slice (Row.enc r::rs.map Row.enc))],.map (seenE (headsD [] (r::rs)))],S.lo⟩:Sto).objs[S.objs.length+1]?=some (.box [.val (.slice (t.enc::ts.map TyD.enc))]):=by simp only[List.append_assoc,List.length_append,List.length_cons,List.length_nil,List.cons_append,List.nil_append,objK,obj0,setK,set0,takeK,List.take_zero,List.take_succ_cons,List.set_cons_zero,List.set_cons_succ,List.getElem?_cons_zero,List.getElem?_cons_succ,Nat.reduceAdd,Nat.zero_add,t.enc_eq]
  have hmm:(⟨S.objs++[.box [.val (.slice (ds.map DaD.enc))],.box [.val (.slice (.agg [.str t.name,.slice (t.args.map TyD.enc)]::ts.map TyD.enc))],.box [.val (.slice (.agg [.int .i64 q0.kind,.str q0.name,.slice (q0.args.map PaD.enc)]::qt.map PaD.enc))],.box [.val (.slice (Row.enc r::rs.map Row.enc))],.map (seenE (headsD [] (r::rs)))],S.lo⟩:Sto).objs[S.objs.length+4]?=some (.map (seenE (headsD [] (r::rs)))):=by simp only[List.append_assoc,List.length_append,List.length_cons,List.length_nil,List.cons_append,List.nil_append,objK,obj0,setK,set0,takeK,List.take_zero,List.take_succ_cons,List.set_cons_zero,List.set_cons_succ,List.getElem?_cons_zero,List.getElem?_cons_succ,Nat.reduceAdd,Nat.zero_add]
  have hlo5:S.lo≤(⟨S.objs++[.box [.val (.slice (ds.map DaD.enc))],.box [.val (.slice (.agg [.str t.name,.slice (t.args.map TyD.enc)]::ts.map TyD.enc))],.box [.val (.slice (.agg [.int .i64 q0.kind,.str q0.name,.slice (q0.args.map PaD.enc)]::qt.map PaD.enc))],.box [.val (.slice (Row.enc r::rs.map Row.enc))],.map (seenE (headsD [] (r::rs)))],S.lo⟩:Sto).objs.length:=by simp;omega
  obtain ⟨m0,m1,m2,m3,m4,m5,m6,m7,m8,m9,m10,m11,m13,m14,m16,m17,m18,m20,m22,m23,m24,m25,m27,m28,m29,m32,m38,m47,m48,m49,m50,m57,m69,m70,m71,m72,m73,m82,m92,m93,m94,m95,m108,m109,m110,m111,m112,m122,m125,m126,m127,m128,m134,m152,l1⟩:=loop97b (kd:=kd) hqq [.loc (S.objs.length+2) 0,.loc (S.objs.length+3) 0,.loc S.objs.length 0,.loc (S.objs.length+1) 0] (fun _=>none) (consD ds t) [] (by simpa using hcl) (fun c hc=>by rw[hn] at hc;cases hc)
  simp only[List.nil_append,List.length_nil,hn] at l1
  rw[e0] at l1
  simp only[resS,Option.getD_none,Option.isSome_none,List.map_nil]
  focus
   simp only[List.map_cons,rowsL_enc]
   rw[t.enc_eq,q0.enc_eq]
   apply tA
   ·rfl
   ·rfl
   ·exact Tryz.func97
   ·rfl
   ·rfl
   ·simp only[go_sem,Nat.reduceAdd,reduceIte];rfl
   refine tQ ?_;repeat first|with_reducible constructor|(with_reducible apply tG);kernel_rfl;intro _ _;(repeat apply tOp;intro _;simp only[List.append_assoc,List.length_append,List.length_cons,List.length_nil,List.cons_append,List.nil_append,objK,obj0,setK,set0,takeK,List.take_zero,List.take_succ_cons,List.set_cons_zero,List.set_cons_succ,List.getElem?_cons_zero,List.getElem?_cons_succ,Nat.reduceAdd,Nat.zero_add,Nat.add_zero,List.length_map,go_sem,Nat.reduceAdd,reduceIte];rfl);rfl;simp only[go_sem];rfl
   with_reducible apply tF
   ·simp only[go_sem];rfl
   ·exact eqS1 _
   refine tQ ?_;repeat first|with_reducible constructor|(with_reducible apply tG);kernel_rfl;intro _ _;(repeat apply tOp;intro _;simp only[List.append_assoc,List.length_append,List.length_cons,List.length_nil,List.cons_append,List.nil_append,objK,obj0,setK,set0,takeK,List.take_zero,List.take_succ_cons,List.set_cons_zero,List.set_cons_succ,List.getElem?_cons_zero,List.getElem?_cons_succ,Nat.reduceAdd,Nat.zero_add,Nat.add_zero,List.length_map,go_sem,Nat.reduceAdd,reduceIte];rfl);rfl;simp only[go_sem];rfl
   with_reducible apply tF
   ·simp only[go_sem];rfl
   ·exact eqS1 _
   refine tQ ?_;repeat first|with_reducible constructor|(with_reducible apply tG);kernel_rfl;intro _ _;(repeat apply tOp;intro _;simp only[List.append_assoc,List.length_append,List.length_cons,List.length_nil,List.cons_append,List.nil_append,objK,obj0,setK,set0,takeK,List.take_zero,List.take_succ_cons,List.set_cons_zero,List.set_cons_succ,List.getElem?_cons_zero,List.getElem?_cons_succ,Nat.reduceAdd,Nat.zero_add,Nat.add_zero,h73,d00,n0,List.length_map,go_sem,Nat.reduceAdd,reduceIte];rfl);rfl;simp only[go_sem];rfl
   apply tL
   ·exact l0
   refine tQ ?_;repeat first|with_reducible constructor|(with_reducible apply tG);kernel_rfl;intro _ _;(repeat apply tOp;intro _;simp only[List.append_assoc,List.length_append,List.length_cons,List.length_nil,List.cons_append,List.nil_append,objK,obj0,setK,set0,takeK,List.take_zero,List.take_succ_cons,List.set_cons_zero,List.set_cons_succ,List.getElem?_cons_zero,List.getElem?_cons_succ,Nat.reduceAdd,Nat.zero_add,Nat.add_zero,d00,n0,go_sem,Nat.reduceAdd,reduceIte];rfl);rfl;simp only[go_sem];rfl
   with_reducible apply tT
   ·simp only[go_sem];rfl
   ·exact hk
   refine tQ ?_;repeat first|with_reducible constructor|(with_reducible apply tG);kernel_rfl;intro _ _;(repeat apply tOp;intro _;simp only[List.length_map,go_sem,Nat.reduceAdd,reduceIte];rfl);rfl;simp only[go_sem];rfl
   apply tL
   ·exact l1
   refine tQ ?_;repeat first|with_reducible constructor|(with_reducible apply tG);kernel_rfl;intro _ _;(repeat apply tOp;intro _;simp only[go_sem,Nat.reduceAdd,reduceIte];rfl);rfl;simp only[go_sem];rfl
   exact finE [_,_,_,_,_] rfl
 |@con t ts q0 qt r rs c x hb hk hn hB hs ih =>
  intro S hlo
  have e0:((0:Nat):Int)=0:=rfl
  have hcl:=consD_len h t
  have h73:=c73 (kd:=kd) h t ⟨S.objs++[.box [.val (.slice (ds.map DaD.enc))],.box [.val (.slice (.agg [.str t.name,.slice (t.args.map TyD.enc)]::ts.map TyD.enc))],.box [.val (.slice (.agg [.int .i64 q0.kind,.str q0.name,.slice (q0.args.map PaD.enc)]::qt.map PaD.enc))],.box [.val (.slice (Row.enc r::rs.map Row.enc))]],S.lo⟩ (by simp;omega)
  rw[t.enc_eq] at h73
  obtain ⟨s0,s1,s2,s3,s8,s9,s13,s14,s16,s17,s18,s20,s22,s23,s24,s25,s27,s28,s29,s32,s38,s47,s48,s49,s50,s57,s69,s70,s71,s72,s73,s82,s92,s93,s94,s95,s108,s109,s110,s111,s112,s122,s125,s126,s127,s128,s134,s152,l0⟩:=loop97a (kd:=kd) (O:=S.objs) (lo:=S.lo) hlo (.box [.val (.slice (ds.map DaD.enc))]) (.box [.val (.slice (.agg [.str t.name,.slice (t.args.map TyD.enc)]::ts.map TyD.enc))]) (.box [.val (.slice (.agg [.int .i64 q0.kind,.str q0.name,.slice (q0.args.map PaD.enc)]::qt.map PaD.enc))]) (.box [.val (.slice (Row.enc r::rs.map Row.enc))]) (.val (.loc S.objs.length 0)) (.val (.loc (S.objs.length+1) 0)) (.val (.loc (S.objs.length+2) 0)) (.val (.loc (S.objs.length+3) 0)) (.val (.slice ((consD ds t).map CoD.enc))) (r::rs) [] [] (by simp;omega)
  simp only[List.nil_append,List.length_nil,seen_nil,List.map_cons,List.length_cons] at l0
  rw[e0] at l0
  have hqq:(⟨S.objs++[.box [.val (.slice (ds.map DaD.enc))],.box [.val (.slice (.agg [.str t.name,.slice (t.args.map TyD.enc)]::ts.map TyD.enc))],.box [.val (.slice (.agg [.int .i64 q0.kind,.str q0.name,.slice (q0.args.map PaD.enc)]::qt.map PaD.enc))],.box [.val (.slice (Row.enc r::rs.map Row.enc))],.map (seenE (headsD [] (r::rs)))],S.lo⟩:Sto).objs[S.objs.length+2]?=some (.box [.val (Row.enc (q0,qt))]):=by simp only[List.append_assoc,List.length_append,List.length_cons,List.length_nil,List.cons_append,List.nil_append,objK,obj0,setK,set0,takeK,List.take_zero,List.take_succ_cons,List.set_cons_zero,List.set_cons_succ,List.getElem?_cons_zero,List.getElem?_cons_succ,Nat.reduceAdd,Nat.zero_add,Row.enc_eq]
  have hrr:(⟨S.objs++[.box [.val (.slice (ds.map DaD.enc))],.box [.val (.slice (.agg [.str t.name,.slice (t.args.map TyD.enc)]::ts.map TyD.enc))],.box [.val (.slice (.agg [.int .i64 q0.kind,.str q0.name,.slice (q0.args.map PaD.enc)]::qt.map PaD.enc))],.box [.val (.slice (Row.enc r::rs.map Row.enc))],.map (seenE (headsD [] (r::rs)))],S.lo⟩:Sto).objs[S.objs.length+3]?=some (.box [.val (.slice ((r::rs).map Row.enc))]):=by simp only[List.append_assoc,List.length_append,List.length_cons,List.length_nil,List.cons_append,List.nil_append,objK,obj0,setK,set0,takeK,List.take_zero,List.take_succ_cons,List.set_cons_zero,List.set_cons_succ,List.getElem?_cons_zero,List.getElem?_cons_succ,Nat.reduceAdd,Nat.zero_add,List.map_cons]
  have hdd:(⟨S.objs++[.box [.val (.slice (ds.map DaD.enc))],.box [.val (.slice (.agg [.str t.name,.slice (t.args.map TyD.enc)]::ts.map TyD.enc))],.box [.val (.slice (.agg [.int .i64 q0.kind,.str q0.name,.slice (q0.args.map PaD.enc)]::qt.map PaD.enc))],.box [.val (.slice (Row.enc r::rs.map Row.enc))],.map (seenE (headsD [] (r::rs)))],S.lo⟩:Sto).objs[S.objs.length]?=some (.box [.val (.slice (ds.map DaD.enc))]):=by simp only[List.append_assoc,List.length_append,List.length_cons,List.length_nil,List.cons_append,List.nil_append,objK,obj0,setK,set0,takeK,List.take_zero,List.take_succ_cons,List.set_cons_zero,List.set_cons_succ,List.getElem?_cons_zero,List.getElem?_cons_succ,Nat.reduceAdd,Nat.zero_add]
  have htt:(⟨S.objs++[.box [.val (.slice (ds.map DaD.enc))],.box [.val (.slice (.agg [.str t.name,.slice (t.args.map TyD.enc)]::ts.map TyD.enc))],.box [.val (.slice (.agg [.int .i64 q0.kind,.str q0.name,.slice (q0.args.map PaD.enc)]::qt.map PaD.enc))],.box [.val (.slice (Row.enc r::rs.map Row.enc))],.map (seenE (headsD [] (r::rs)))],S.lo⟩:Sto).objs[S.objs.length+1]?=some (.box [.val (.slice (t.enc::ts.map TyD.enc))]):=by simp only[List.append_assoc,List.length_append,List.length_cons,List.length_nil,List.cons_append,List.nil_append,objK,obj0,setK,set0,takeK,List.take_zero,List.take_succ_cons,List.set_cons_zero,List.set_cons_succ,List.getElem?_cons_zero,List.getElem?_cons_succ,Nat.reduceAdd,Nat.zero_add,t.enc_eq]
  have hmm:(⟨S.objs++[.box [.val (.slice (ds.map DaD.enc))],.box [.val (.slice (.agg [.str t.name,.slice (t.args.map TyD.enc)]::ts.map TyD.enc))],.box [.val (.slice (.agg [.int .i64 q0.kind,.str q0.name,.slice (q0.args.map PaD.enc)]::qt.map PaD.enc))],.box [.val (.slice (Row.enc r::rs.map Row.enc))],.map (seenE (headsD [] (r::rs)))],S.lo⟩:Sto).objs[S.objs.length+4]?=some (.map (seenE (headsD [] (r::rs)))):=by simp only[List.append_assoc,List.length_append,List.length_cons,List.length_nil,List.cons_append,List.nil_append,objK,obj0,setK,set0,takeK,List.take_zero,List.take_succ_cons,List.set_cons_zero,List.set_cons_succ,List.getElem?_cons_zero,List.getElem?_cons_succ,Nat.reduceAdd,Nat.zero_add]
  have hlo5:S.lo≤(⟨S.objs++[.box [.val (.slice (ds.map DaD.enc))],.box [.val (.slice (.agg [.str t.name,.slice (t.args.map TyD.enc)]::ts.map TyD.enc))],.box [.val (.slice (.agg [.int .i64 q0.kind,.str q0.name,.slice (q0.args.map PaD.enc)]::qt.map PaD.enc))],.box [.val (.slice (Row.enc r::rs.map Row.enc))],.map (seenE (headsD [] (r::rs)))],S.lo⟩:Sto).objs.length:=by simp;omega
  have h151:=c151 (kd:=kd) (ds:=ds) hqq hrr hdd htt c hB.b0 x hB.b1 hB.b2 (by simp;omega) hB.b4 hB.b5 (fun f hf=>ih f hf _ hlo5)
  obtain ⟨m0,m1,m2,m3,m4,m5,m6,m7,m8,m9,m10,m11,m13,m14,m16,m17,m18,m20,m22,m23,m24,m25,m27,m28,m29,m32,m38,m47,m48,m49,m50,m57,m69,m70,m71,m72,m73,m82,m92,m93,m94,m95,m108,m109,m110,m111,m112,m122,m125,m126,m127,m128,m134,m152,l1⟩:=loop97b (kd:=kd) hqq [.loc (S.objs.length+2) 0,.loc (S.objs.length+3) 0,.loc S.objs.length 0,.loc (S.objs.length+1) 0] (fun _=>oneR (q0,qt) c x) (consD ds t) [] (by simpa using hcl) (fun c' hc=>by rw[hn] at hc;cases hc;exact h151)
  simp only[List.nil_append,List.length_nil,hn] at l1
  rw[e0] at l1
  simp only[resS]
  focus
   simp only[List.map_cons,rowsL_enc]
   rw[t.enc_eq,q0.enc_eq]
   apply tA
   ·rfl
   ·rfl
   ·exact Tryz.func97
   ·rfl
   ·rfl
   ·simp only[go_sem,Nat.reduceAdd,reduceIte];rfl
   refine tQ ?_;repeat first|with_reducible constructor|(with_reducible apply tG);kernel_rfl;intro _ _;(repeat apply tOp;intro _;simp only[List.append_assoc,List.length_append,List.length_cons,List.length_nil,List.cons_append,List.nil_append,objK,obj0,setK,set0,takeK,List.take_zero,List.take_succ_cons,List.set_cons_zero,List.set_cons_succ,List.getElem?_cons_zero,List.getElem?_cons_succ,Nat.reduceAdd,Nat.zero_add,Nat.add_zero,List.length_map,go_sem,Nat.reduceAdd,reduceIte];rfl);rfl;simp only[go_sem];rfl
   with_reducible apply tF
   ·simp only[go_sem];rfl
   ·exact eqS1 _
   refine tQ ?_;repeat first|with_reducible constructor|(with_reducible apply tG);kernel_rfl;intro _ _;(repeat apply tOp;intro _;simp only[List.append_assoc,List.length_append,List.length_cons,List.length_nil,List.cons_append,List.nil_append,objK,obj0,setK,set0,takeK,List.take_zero,List.take_succ_cons,List.set_cons_zero,List.set_cons_succ,List.getElem?_cons_zero,List.getElem?_cons_succ,Nat.reduceAdd,Nat.zero_add,Nat.add_zero,List.length_map,go_sem,Nat.reduceAdd,reduceIte];rfl);rfl;simp only[go_sem];rfl
   with_reducible apply tF
   ·simp only[go_sem];rfl
   ·exact eqS1 _
   refine tQ ?_;repeat first|with_reducible constructor|(with_reducible apply tG);kernel_rfl;intro _ _;(repeat apply tOp;intro _;simp only[List.append_assoc,List.length_append,List.length_cons,List.length_nil,List.cons_append,List.nil_append,objK,obj0,setK,set0,takeK,List.take_zero,List.take_succ_cons,List.set_cons_zero,List.set_cons_succ,List.getElem?_cons_zero,List.getElem?_cons_succ,Nat.reduceAdd,Nat.zero_add,Nat.add_zero,h73,d00,n0,List.length_map,go_sem,Nat.reduceAdd,reduceIte];rfl);rfl;simp only[go_sem];rfl
   apply tL
   ·exact l0
   refine tQ ?_;repeat first|with_reducible constructor|(with_reducible apply tG);kernel_rfl;intro _ _;(repeat apply tOp;intro _;simp only[List.append_assoc,List.length_append,List.length_cons,List.length_nil,List.cons_append,List.nil_append,objK,obj0,setK,set0,takeK,List.take_zero,List.take_succ_cons,List.set_cons_zero,List.set_cons_succ,List.getElem?_cons_zero,List.getElem?_cons_succ,Nat.reduceAdd,Nat.zero_add,Nat.add_zero,d00,n0,go_sem,Nat.reduceAdd,reduceIte];rfl);rfl;simp only[go_sem];rfl
   with_reducible apply tT
   ·simp only[go_sem];rfl
   ·exact hk
   refine tQ ?_;repeat first|with_reducible constructor|(with_reducible apply tG);kernel_rfl;intro _ _;(repeat apply tOp;intro _;simp only[List.length_map,go_sem,Nat.reduceAdd,reduceIte];rfl);rfl;simp only[go_sem];rfl
   apply tL
   ·exact l1
   refine tQ ?_;repeat first|with_reducible constructor|(with_reducible apply tG);kernel_rfl;intro _ _;(repeat apply tOp;intro _;simp only[go_sem,Nat.reduceAdd,reduceIte];rfl);rfl;simp only[go_sem];rfl
   exact finE [_,_,_,_,_] rfl
 |@all t ts q0 qt r rs X hb hk hm hB hs ih =>
  intro S hlo
  have e0:((0:Nat):Int)=0:=rfl
  have hcl:=consD_len h t
  have h73:=c73 (kd:=kd) h t ⟨S.objs++[.box [.val (.slice (ds.map DaD.enc))],.box [.val (.slice (.agg [.str t.name,.slice (t.args.map TyD.enc)]::ts.map TyD.enc))],.box [.val (.slice (.agg [.int .i64 q0.kind,.str q0.name,.slice (q0.args.map PaD.enc)]::qt.map PaD.enc))],.box [.val (.slice (Row.enc r::rs.map Row.enc))]],S.lo⟩ (by simp;omega)
  rw[t.enc_eq] at h73
  obtain ⟨s0,s1,s2,s3,s8,s9,s13,s14,s16,s17,s18,s20,s22,s23,s24,s25,s27,s28,s29,s32,s38,s47,s48,s49,s50,s57,s69,s70,s71,s72,s73,s82,s92,s93,s94,s95,s108,s109,s110,s111,s112,s122,s125,s126,s127,s128,s134,s152,l0⟩:=loop97a (kd:=kd) (O:=S.objs) (lo:=S.lo) hlo (.box [.val (.slice (ds.map DaD.enc))]) (.box [.val (.slice (.agg [.str t.name,.slice (t.args.map TyD.enc)]::ts.map TyD.enc))]) (.box [.val (.slice (.agg [.int .i64 q0.kind,.str q0.name,.slice (q0.args.map PaD.enc)]::qt.map PaD.enc))]) (.box [.val (.slice (Row.enc r::rs.map Row.enc))]) (.val (.loc S.objs.length 0)) (.val (.loc (S.objs.length+1) 0)) (.val (.loc (S.objs.length+2) 0)) (.val (.loc (S.objs.length+3) 0)) (.val (.slice ((consD ds t).map CoD.enc))) (r::rs) [] [] (by simp;omega)
  simp only[List.nil_append,List.length_nil,seen_nil,List.map_cons,List.length_cons] at l0
  rw[e0] at l0
  have hqq:(⟨S.objs++[.box [.val (.slice (ds.map DaD.enc))],.box [.val (.slice (.agg [.str t.name,.slice (t.args.map TyD.enc)]::ts.map TyD.enc))],.box [.val (.slice (.agg [.int .i64 q0.kind,.str q0.name,.slice (q0.args.map PaD.enc)]::qt.map PaD.enc))],.box [.val (.slice (Row.enc r::rs.map Row.enc))],.map (seenE (headsD [] (r::rs)))],S.lo⟩:Sto).objs[S.objs.length+2]?=some (.box [.val (Row.enc (q0,qt))]):=by simp only[List.append_assoc,List.length_append,List.length_cons,List.length_nil,List.cons_append,List.nil_append,objK,obj0,setK,set0,takeK,List.take_zero,List.take_succ_cons,List.set_cons_zero,List.set_cons_succ,List.getElem?_cons_zero,List.getElem?_cons_succ,Nat.reduceAdd,Nat.zero_add,Row.enc_eq]
  have hrr:(⟨S.objs++[.box [.val (.slice (ds.map DaD.enc))],.box [.val (.slice (.agg [.str t.name,.slice (t.args.map TyD.enc)]::ts.map TyD.enc))],.box [.val (.slice (.agg [.int .i64 q0.kind,.str q0.name,.slice (q0.args.map PaD.enc)]::qt.map PaD.enc))],.box [.val (.slice (Row.enc r::rs.map Row.enc))],.map (seenE (headsD [] (r::rs)))],S.lo⟩:Sto).objs[S.objs.length+3]?=some (.box [.val (.slice ((r::rs).map Row.enc))]):=by simp only[List.append_assoc,List.length_append,List.length_cons,List.length_nil,List.cons_append,List.nil_append,objK,obj0,setK,set0,takeK,List.take_zero,List.take_succ_cons,List.set_cons_zero,List.set_cons_succ,List.getElem?_cons_zero,List.getElem?_cons_succ,Nat.reduceAdd,Nat.zero_add,List.map_cons]
  have hdd:(⟨S.objs++[.box [.val (.slice (ds.map DaD.enc))],.box [.val (.slice (.agg [.str t.name,.slice (t.args.map TyD.enc)]::ts.map TyD.enc))],.box [.val (.slice (.agg [.int .i64 q0.kind,.str q0.name,.slice (q0.args.map PaD.enc)]::qt.map PaD.enc))],.box [.val (.slice (Row.enc r::rs.map Row.enc))],.map (seenE (headsD [] (r::rs)))],S.lo⟩:Sto).objs[S.objs.length]?=some (.box [.val (.slice (ds.map DaD.enc))]):=by simp only[List.append_assoc,List.length_append,List.length_cons,List.length_nil,List.cons_append,List.nil_append,objK,obj0,setK,set0,takeK,List.take_zero,List.take_succ_cons,List.set_cons_zero,List.set_cons_succ,List.getElem?_cons_zero,List.getElem?_cons_succ,Nat.reduceAdd,Nat.zero_add]
  have htt:(⟨S.objs++[.box [.val (.slice (ds.map DaD.enc))],.box [.val (.slice (.agg [.str t.name,.slice (t.args.map TyD.enc)]::ts.map TyD.enc))],.box [.val (.slice (.agg [.int .i64 q0.kind,.str q0.name,.slice (q0.args.map PaD.enc)]::qt.map PaD.enc))],.box [.val (.slice (Row.enc r::rs.map Row.enc))],.map (seenE (headsD [] (r::rs)))],S.lo⟩:Sto).objs[S.objs.length+1]?=some (.box [.val (.slice (t.enc::ts.map TyD.enc))]):=by simp only[List.append_assoc,List.length_append,List.length_cons,List.length_nil,List.cons_append,List.nil_append,objK,obj0,setK,set0,takeK,List.take_zero,List.take_succ_cons,List.set_cons_zero,List.set_cons_succ,List.getElem?_cons_zero,List.getElem?_cons_succ,Nat.reduceAdd,Nat.zero_add,t.enc_eq]
  have hmm:(⟨S.objs++[.box [.val (.slice (ds.map DaD.enc))],.box [.val (.slice (.agg [.str t.name,.slice (t.args.map TyD.enc)]::ts.map TyD.enc))],.box [.val (.slice (.agg [.int .i64 q0.kind,.str q0.name,.slice (q0.args.map PaD.enc)]::qt.map PaD.enc))],.box [.val (.slice (Row.enc r::rs.map Row.enc))],.map (seenE (headsD [] (r::rs)))],S.lo⟩:Sto).objs[S.objs.length+4]?=some (.map (seenE (headsD [] (r::rs)))):=by simp only[List.append_assoc,List.length_append,List.length_cons,List.length_nil,List.cons_append,List.nil_append,objK,obj0,setK,set0,takeK,List.take_zero,List.take_succ_cons,List.set_cons_zero,List.set_cons_succ,List.getElem?_cons_zero,List.getElem?_cons_succ,Nat.reduceAdd,Nat.zero_add]
  have hlo5:S.lo≤(⟨S.objs++[.box [.val (.slice (ds.map DaD.enc))],.box [.val (.slice (.agg [.str t.name,.slice (t.args.map TyD.enc)]::ts.map TyD.enc))],.box [.val (.slice (.agg [.int .i64 q0.kind,.str q0.name,.slice (q0.args.map PaD.enc)]::qt.map PaD.enc))],.box [.val (.slice (Row.enc r::rs.map Row.enc))],.map (seenE (headsD [] (r::rs)))],S.lo⟩:Sto).objs.length:=by simp;omega
  obtain ⟨m0,m1,m2,m3,m8,m9,m13,m16,m20,m22,m23,m24,m25,m27,m28,m29,m32,m38,m47,m48,m49,m50,m57,m69,m70,m71,m72,m73,m82,m92,m93,m94,m95,m108,m109,m110,m111,m112,m122,m125,m126,m127,m128,m134,m152,l2⟩:=loop97c (kd:=kd) hmm (.val (.loc S.objs.length 0)) (.val (.loc (S.objs.length+1) 0)) (.val (.loc (S.objs.length+2) 0)) (.val (.loc (S.objs.length+3) 0)) (.val (.slice ((consD ds t).map CoD.enc))) (.val (.func 151 [.loc (S.objs.length+2) 0,.loc (S.objs.length+3) 0,.loc S.objs.length 0,.loc (S.objs.length+1) 0])) (.own 3 []) (consD ds t) [] ((((consD ds t).length:Nat):Int)==0) (by simpa using hcl)
  simp only[List.nil_append,List.length_nil,hm] at l2
  rw[e0] at l2
  have h151:∀ c∈consD ds t,CF kd (.fn 151) [.val c.enc,.val (.loc (S.objs.length+2) 0),.val (.loc (S.objs.length+3) 0),.val (.loc S.objs.length 0),.val (.loc (S.objs.length+1) 0)] ⟨S.objs++[.box [.val (.slice (ds.map DaD.enc))],.box [.val (.slice (.agg [.str t.name,.slice (t.args.map TyD.enc)]::ts.map TyD.enc))],.box [.val (.slice (.agg [.int .i64 q0.kind,.str q0.name,.slice (q0.args.map PaD.enc)]::qt.map PaD.enc))],.box [.val (.slice (Row.enc r::rs.map Row.enc))],.map (seenE (headsD [] (r::rs)))],S.lo⟩=some (.ret (resS (oneR (q0,qt) c (X c))),⟨S.objs++[.box [.val (.slice (ds.map DaD.enc))],.box [.val (.slice (.agg [.str t.name,.slice (t.args.map TyD.enc)]::ts.map TyD.enc))],.box [.val (.slice (.agg [.int .i64 q0.kind,.str q0.name,.slice (q0.args.map PaD.enc)]::qt.map PaD.enc))],.box [.val (.slice (Row.enc r::rs.map Row.enc))],.map (seenE (headsD [] (r::rs)))],S.lo⟩):=by
   intro c hc
   exact c151 (kd:=kd) (ds:=ds) hqq hrr hdd htt c (hB c hc).b0 (X c) (hB c hc).b1 (hB c hc).b2 (by simp;omega) (hB c hc).b4 (hB c hc).b5 (fun f hf=>ih c hc f hf _ hlo5)
  obtain ⟨u0,u1,u2,u3,u4,u5,u6,u7,u8,u9,u10,u11,u13,u14,u16,u17,u18,u20,u22,u23,u24,u25,u27,u28,u29,u32,u38,u47,u48,u49,u50,u57,u69,u70,u71,u72,u73,u82,u92,u93,u94,u95,u108,u109,u110,u111,u112,u122,u125,u126,u127,u128,u134,u152,l3⟩:=loop97d (kd:=kd) [.loc (S.objs.length+2) 0,.loc (S.objs.length+3) 0,.loc S.objs.length 0,.loc (S.objs.length+1) 0] (fun c=>oneR (q0,qt) c (X c)) (consD ds t) [] (by simpa using hcl) h151
  simp only[List.nil_append,List.length_nil] at l3
  rw[e0] at l3
  simp only[resS]
  cases hz:(consD ds t).findSome? (fun c=>oneR (q0,qt) c (X c)) with
  |none =>
   rw[hz] at l3
   simp only[Option.getD_none,Option.isSome_none,List.map_nil] at l3 ⊢
   simp only[List.map_cons,rowsL_enc]
   rw[t.enc_eq,q0.enc_eq]
   apply tA
   ·rfl
   ·rfl
   ·exact Tryz.func97
   ·rfl
   ·rfl
   ·simp only[go_sem,Nat.reduceAdd,reduceIte];rfl
   refine tQ ?_;repeat first|with_reducible constructor|(with_reducible apply tG);kernel_rfl;intro _ _;(repeat apply tOp;intro _;simp only[List.append_assoc,List.length_append,List.length_cons,List.length_nil,List.cons_append,List.nil_append,objK,obj0,setK,set0,takeK,List.take_zero,List.take_succ_cons,List.set_cons_zero,List.set_cons_succ,List.getElem?_cons_zero,List.getElem?_cons_succ,Nat.reduceAdd,Nat.zero_add,Nat.add_zero,List.length_map,go_sem,Nat.reduceAdd,reduceIte];rfl);rfl;simp only[go_sem];rfl
   with_reducible apply tF
   ·simp only[go_sem];rfl
   ·exact eqS1 _
   refine tQ ?_;repeat first|with_reducible constructor|(with_reducible apply tG);kernel_rfl;intro _ _;(repeat apply tOp;intro _;simp only[List.append_assoc,List.length_append,List.length_cons,List.length_nil,List.cons_append,List.nil_append,objK,obj0,setK,set0,takeK,List.take_zero,List.take_succ_cons,List.set_cons_zero,List.set_cons_succ,List.getElem?_cons_zero,List.getElem?_cons_succ,Nat.reduceAdd,Nat.zero_add,Nat.add_zero,List.length_map,go_sem,Nat.reduceAdd,reduceIte];rfl);rfl;simp only[go_sem];rfl
   with_reducible apply tF
   ·simp only[go_sem];rfl
   ·exact eqS1 _
   refine tQ ?_;repeat first|with_reducible constructor|(with_reducible apply tG);kernel_rfl;intro _ _;(repeat apply tOp;intro _;simp only[List.append_assoc,List.length_append,List.length_cons,List.length_nil,List.cons_append,List.nil_append,objK,obj0,setK,set0,takeK,List.take_zero,List.take_succ_cons,List.set_cons_zero,List.set_cons_succ,List.getElem?_cons_zero,List.getElem?_cons_succ,Nat.reduceAdd,Nat.zero_add,Nat.add_zero,h73,d00,n0,List.length_map,go_sem,Nat.reduceAdd,reduceIte];rfl);rfl;simp only[go_sem];rfl
   apply tL
   ·exact l0
   refine tQ ?_;repeat first|with_reducible constructor|(with_reducible apply tG);kernel_rfl;intro _ _;(repeat apply tOp;intro _;simp only[List.append_assoc,List.length_append,List.length_cons,List.length_nil,List.cons_append,List.nil_append,objK,obj0,setK,set0,takeK,List.take_zero,List.take_succ_cons,List.set_cons_zero,List.set_cons_succ,List.getElem?_cons_zero,List.getElem?_cons_succ,Nat.reduceAdd,Nat.zero_add,Nat.add_zero,d00,n0,go_sem,Nat.reduceAdd,reduceIte];rfl);rfl;simp only[go_sem];rfl
   with_reducible apply tF
   ·simp only[go_sem];rfl
   ·exact hk
   refine tQ ?_;repeat first|with_reducible constructor|(with_reducible apply tG);kernel_rfl;intro _ _;(repeat apply tOp;intro _;simp only[List.length_map,go_sem,Nat.reduceAdd,reduceIte];rfl);rfl;simp only[go_sem];rfl
   apply tL
   ·exact l2
   refine tQ ?_;repeat first|with_reducible constructor|(with_reducible apply tG);kernel_rfl;intro _ _;(repeat apply tOp;intro _;simp only[go_sem,Nat.reduceAdd,reduceIte];rfl);rfl;simp only[go_sem];rfl
   with_reducible apply tT
   ·simp only[go_sem];rfl
   ·rfl
   refine tQ ?_
   repeat with_reducible constructor
   with_reducible refine tLab ?_
   refine tQ ?_;repeat first|with_reducible constructor|(with_reducible apply tG);kernel_rfl;intro _ _;(repeat apply tOp;intro _;simp only[List.length_map,go_sem,Nat.reduceAdd,reduceIte];rfl);rfl;simp only[go_sem];rfl
   apply tL
   ·exact l3
   refine tQ ?_;repeat first|with_reducible constructor|(with_reducible apply tG);kernel_rfl;intro _ _;(repeat apply tOp;intro _;simp only[go_sem,Nat.reduceAdd,reduceIte];rfl);rfl;simp only[go_sem];rfl
   exact finE [_,_,_,_,_] rfl
  |some l =>
   rw[hz] at l3
   simp only[Option.getD_some,Option.isSome_some] at l3 ⊢
   simp only[List.map_cons,rowsL_enc]
   rw[t.enc_eq,q0.enc_eq]
   apply tA
   ·rfl
   ·rfl
   ·exact Tryz.func97
   ·rfl
   ·rfl
   ·simp only[go_sem,Nat.reduceAdd,reduceIte];rfl
   refine tQ ?_;repeat first|with_reducible constructor|(with_reducible apply tG);kernel_rfl;intro _ _;(repeat apply tOp;intro _;simp only[List.append_assoc,List.length_append,List.length_cons,List.length_nil,List.cons_append,List.nil_append,objK,obj0,setK,set0,takeK,List.take_zero,List.take_succ_cons,List.set_cons_zero,List.set_cons_succ,List.getElem?_cons_zero,List.getElem?_cons_succ,Nat.reduceAdd,Nat.zero_add,Nat.add_zero,List.length_map,go_sem,Nat.reduceAdd,reduceIte];rfl);rfl;simp only[go_sem];rfl
   with_reducible apply tF
   ·simp only[go_sem];rfl
   ·exact eqS1 _
   refine tQ ?_;repeat first|with_reducible constructor|(with_reducible apply tG);kernel_rfl;intro _ _;(repeat apply tOp;intro _;simp only[List.append_assoc,List.length_append,List.length_cons,List.length_nil,List.cons_append,List.nil_append,objK,obj0,setK,set0,takeK,List.take_zero,List.take_succ_cons,List.set_cons_zero,List.set_cons_succ,List.getElem?_cons_zero,List.getElem?_cons_succ,Nat.reduceAdd,Nat.zero_add,Nat.add_zero,List.length_map,go_sem,Nat.reduceAdd,reduceIte];rfl);rfl;simp only[go_sem];rfl
   with_reducible apply tF
   ·simp only[go_sem];rfl
   ·exact eqS1 _
   refine tQ ?_;repeat first|with_reducible constructor|(with_reducible apply tG);kernel_rfl;intro _ _;(repeat apply tOp;intro _;simp only[List.append_assoc,List.length_append,List.length_cons,List.length_nil,List.cons_append,List.nil_append,objK,obj0,setK,set0,takeK,List.take_zero,List.take_succ_cons,List.set_cons_zero,List.set_cons_succ,List.getElem?_cons_zero,List.getElem?_cons_succ,Nat.reduceAdd,Nat.zero_add,Nat.add_zero,h73,d00,n0,List.length_map,go_sem,Nat.reduceAdd,reduceIte];rfl);rfl;simp only[go_sem];rfl
   apply tL
   ·exact l0
   refine tQ ?_;repeat first|with_reducible constructor|(with_reducible apply tG);kernel_rfl;intro _ _;(repeat apply tOp;intro _;simp only[List.append_assoc,List.length_append,List.length_cons,List.length_nil,List.cons_append,List.nil_append,objK,obj0,setK,set0,takeK,List.take_zero,List.take_succ_cons,List.set_cons_zero,List.set_cons_succ,List.getElem?_cons_zero,List.getElem?_cons_succ,Nat.reduceAdd,Nat.zero_add,Nat.add_zero,d00,n0,go_sem,Nat.reduceAdd,reduceIte];rfl);rfl;simp only[go_sem];rfl
   with_reducible apply tF
   ·simp only[go_sem];rfl
   ·exact hk
   refine tQ ?_;repeat first|with_reducible constructor|(with_reducible apply tG);kernel_rfl;intro _ _;(repeat apply tOp;intro _;simp only[List.length_map,go_sem,Nat.reduceAdd,reduceIte];rfl);rfl;simp only[go_sem];rfl
   apply tL
   ·exact l2
   refine tQ ?_;repeat first|with_reducible constructor|(with_reducible apply tG);kernel_rfl;intro _ _;(repeat apply tOp;intro _;simp only[go_sem,Nat.reduceAdd,reduceIte];rfl);rfl;simp only[go_sem];rfl
   with_reducible apply tT
   ·simp only[go_sem];rfl
   ·rfl
   refine tQ ?_
   repeat with_reducible constructor
   with_reducible refine tLab ?_
   refine tQ ?_;repeat first|with_reducible constructor|(with_reducible apply tG);kernel_rfl;intro _ _;(repeat apply tOp;intro _;simp only[List.length_map,go_sem,Nat.reduceAdd,reduceIte];rfl);rfl;simp only[go_sem];rfl
   apply tL
   ·exact l3
   refine tQ ?_;repeat first|with_reducible constructor|(with_reducible apply tG);kernel_rfl;intro _ _;(repeat apply tOp;intro _;simp only[go_sem,Nat.reduceAdd,reduceIte];rfl);rfl;simp only[go_sem];rfl
   exact finE [_,_,_,_,_] rfl
 |@rest t ts q0 qt r rs x hb hC hk hm hx hs ih =>
  intro S hlo
  have e0:((0:Nat):Int)=0:=rfl
  have hcl:=consD_len h t
  have h73:=c73 (kd:=kd) h t ⟨S.objs++[.box [.val (.slice (ds.map DaD.enc))],.box [.val (.slice (.agg [.str t.name,.slice (t.args.map TyD.enc)]::ts.map TyD.enc))],.box [.val (.slice (.agg [.int .i64 q0.kind,.str q0.name,.slice (q0.args.map PaD.enc)]::qt.map PaD.enc))],.box [.val (.slice (Row.enc r::rs.map Row.enc))]],S.lo⟩ (by simp;omega)
  rw[t.enc_eq] at h73
  obtain ⟨s0,s1,s2,s3,s8,s9,s13,s14,s16,s17,s18,s20,s22,s23,s24,s25,s27,s28,s29,s32,s38,s47,s48,s49,s50,s57,s69,s70,s71,s72,s73,s82,s92,s93,s94,s95,s108,s109,s110,s111,s112,s122,s125,s126,s127,s128,s134,s152,l0⟩:=loop97a (kd:=kd) (O:=S.objs) (lo:=S.lo) hlo (.box [.val (.slice (ds.map DaD.enc))]) (.box [.val (.slice (.agg [.str t.name,.slice (t.args.map TyD.enc)]::ts.map TyD.enc))]) (.box [.val (.slice (.agg [.int .i64 q0.kind,.str q0.name,.slice (q0.args.map PaD.enc)]::qt.map PaD.enc))]) (.box [.val (.slice (Row.enc r::rs.map Row.enc))]) (.val (.loc S.objs.length 0)) (.val (.loc (S.objs.length+1) 0)) (.val (.loc (S.objs.length+2) 0)) (.val (.loc (S.objs.length+3) 0)) (.val (.slice ((consD ds t).map CoD.enc))) (r::rs) [] [] (by simp;omega)
  simp only[List.nil_append,List.length_nil,seen_nil,List.map_cons,List.length_cons] at l0
  rw[e0] at l0
  have hqq:(⟨S.objs++[.box [.val (.slice (ds.map DaD.enc))],.box [.val (.slice (.agg [.str t.name,.slice (t.args.map TyD.enc)]::ts.map TyD.enc))],.box [.val (.slice (.agg [.int .i64 q0.kind,.str q0.name,.slice (q0.args.map PaD.enc)]::qt.map PaD.enc))],.box [.val (.slice (Row.enc r::rs.map Row.enc))],.map (seenE (headsD [] (r::rs)))],S.lo⟩:Sto).objs[S.objs.length+2]?=some (.box [.val (Row.enc (q0,qt))]):=by simp only[List.append_assoc,List.length_append,List.length_cons,List.length_nil,List.cons_append,List.nil_append,objK,obj0,setK,set0,takeK,List.take_zero,List.take_succ_cons,List.set_cons_zero,List.set_cons_succ,List.getElem?_cons_zero,List.getElem?_cons_succ,Nat.reduceAdd,Nat.zero_add,Row.enc_eq]
  have hrr:(⟨S.objs++[.box [.val (.slice (ds.map DaD.enc))],.box [.val (.slice (.agg [.str t.name,.slice (t.args.map TyD.enc)]::ts.map TyD.enc))],.box [.val (.slice (.agg [.int .i64 q0.kind,.str q0.name,.slice (q0.args.map PaD.enc)]::qt.map PaD.enc))],.box [.val (.slice (Row.enc r::rs.map Row.enc))],.map (seenE (headsD [] (r::rs)))],S.lo⟩:Sto).objs[S.objs.length+3]?=some (.box [.val (.slice ((r::rs).map Row.enc))]):=by simp only[List.append_assoc,List.length_append,List.length_cons,List.length_nil,List.cons_append,List.nil_append,objK,obj0,setK,set0,takeK,List.take_zero,List.take_succ_cons,List.set_cons_zero,List.set_cons_succ,List.getElem?_cons_zero,List.getElem?_cons_succ,Nat.reduceAdd,Nat.zero_add,List.map_cons]
  have hdd:(⟨S.objs++[.box [.val (.slice (ds.map DaD.enc))],.box [.val (.slice (.agg [.str t.name,.slice (t.args.map TyD.enc)]::ts.map TyD.enc))],.box [.val (.slice (.agg [.int .i64 q0.kind,.str q0.name,.slice (q0.args.map PaD.enc)]::qt.map PaD.enc))],.box [.val (.slice (Row.enc r::rs.map Row.enc))],.map (seenE (headsD [] (r::rs)))],S.lo⟩:Sto).objs[S.objs.length]?=some (.box [.val (.slice (ds.map DaD.enc))]):=by simp only[List.append_assoc,List.length_append,List.length_cons,List.length_nil,List.cons_append,List.nil_append,objK,obj0,setK,set0,takeK,List.take_zero,List.take_succ_cons,List.set_cons_zero,List.set_cons_succ,List.getElem?_cons_zero,List.getElem?_cons_succ,Nat.reduceAdd,Nat.zero_add]
  have htt:(⟨S.objs++[.box [.val (.slice (ds.map DaD.enc))],.box [.val (.slice (.agg [.str t.name,.slice (t.args.map TyD.enc)]::ts.map TyD.enc))],.box [.val (.slice (.agg [.int .i64 q0.kind,.str q0.name,.slice (q0.args.map PaD.enc)]::qt.map PaD.enc))],.box [.val (.slice (Row.enc r::rs.map Row.enc))],.map (seenE (headsD [] (r::rs)))],S.lo⟩:Sto).objs[S.objs.length+1]?=some (.box [.val (.slice (t.enc::ts.map TyD.enc))]):=by simp only[List.append_assoc,List.length_append,List.length_cons,List.length_nil,List.cons_append,List.nil_append,objK,obj0,setK,set0,takeK,List.take_zero,List.take_succ_cons,List.set_cons_zero,List.set_cons_succ,List.getElem?_cons_zero,List.getElem?_cons_succ,Nat.reduceAdd,Nat.zero_add,t.enc_eq]
  have hmm:(⟨S.objs++[.box [.val (.slice (ds.map DaD.enc))],.box [.val (.slice (.agg [.str t.name,.slice (t.args.map TyD.enc)]::ts.map TyD.enc))],.box [.val (.slice (.agg [.int .i64 q0.kind,.str q0.name,.slice (q0.args.map PaD.enc)]::qt.map PaD.enc))],.box [.val (.slice (Row.enc r::rs.map Row.enc))],.map (seenE (headsD [] (r::rs)))],S.lo⟩:Sto).objs[S.objs.length+4]?=some (.map (seenE (headsD [] (r::rs)))):=by simp only[List.append_assoc,List.length_append,List.length_cons,List.length_nil,List.cons_append,List.nil_append,objK,obj0,setK,set0,takeK,List.take_zero,List.take_succ_cons,List.set_cons_zero,List.set_cons_succ,List.getElem?_cons_zero,List.getElem?_cons_succ,Nat.reduceAdd,Nat.zero_add]
  have hlo5:S.lo≤(⟨S.objs++[.box [.val (.slice (ds.map DaD.enc))],.box [.val (.slice (.agg [.str t.name,.slice (t.args.map TyD.enc)]::ts.map TyD.enc))],.box [.val (.slice (.agg [.int .i64 q0.kind,.str q0.name,.slice (q0.args.map PaD.enc)]::qt.map PaD.enc))],.box [.val (.slice (Row.enc r::rs.map Row.enc))],.map (seenE (headsD [] (r::rs)))],S.lo⟩:Sto).objs.length:=by simp;omega
  obtain ⟨m0,m1,m2,m3,m8,m9,m13,m16,m20,m22,m23,m24,m25,m27,m28,m29,m32,m38,m47,m48,m49,m50,m57,m69,m70,m71,m72,m73,m82,m92,m93,m94,m95,m108,m109,m110,m111,m112,m122,m125,m126,m127,m128,m134,m152,l2⟩:=loop97c (kd:=kd) hmm (.val (.loc S.objs.length 0)) (.val (.loc (S.objs.length+1) 0)) (.val (.loc (S.objs.length+2) 0)) (.val (.loc (S.objs.length+3) 0)) (.val (.slice ((consD ds t).map CoD.enc))) (.val (.func 151 [.loc (S.objs.length+2) 0,.loc (S.objs.length+3) 0,.loc S.objs.length 0,.loc (S.objs.length+1) 0])) (.own 3 []) (consD ds t) [] ((((consD ds t).length:Nat):Int)==0) (by simpa using hcl)
  simp only[List.nil_append,List.length_nil,hm] at l2
  rw[e0] at l2
  obtain ⟨u0,u1,u2,u3,u7,u8,u9,u13,u14,u16,u18,u20,u22,u23,u24,u27,u28,u29,u32,u38,u47,u48,u49,u50,u57,u69,u70,u71,u72,u73,u82,u92,u93,u94,u95,u108,u109,u110,u111,u112,u122,u125,u126,u127,u128,u134,u152,l4⟩:=loop97e (kd:=kd) (S:=(⟨S.objs++[.box [.val (.slice (ds.map DaD.enc))],.box [.val (.slice (.agg [.str t.name,.slice (t.args.map TyD.enc)]::ts.map TyD.enc))],.box [.val (.slice (.agg [.int .i64 q0.kind,.str q0.name,.slice (q0.args.map PaD.enc)]::qt.map PaD.enc))],.box [.val (.slice (Row.enc r::rs.map Row.enc))],.map (seenE (headsD [] (r::rs)))],S.lo⟩:Sto)) (.val (.loc S.objs.length 0)) (.val (.loc (S.objs.length+1) 0)) (.val (.loc (S.objs.length+2) 0)) (.val (.slice ((consD ds t).map CoD.enc))) (.val (.amap (S.objs.length+4))) (.own 3 []) (r::rs) [] [] (by simp;omega) (by simp;omega)
  simp only[List.nil_append,List.length_nil,List.map_cons,List.length_cons] at l4
  rw[e0] at l4
  have hrec:=ih (⟨S.objs++[.box [.val (.slice (ds.map DaD.enc))],.box [.val (.slice (.agg [.str t.name,.slice (t.args.map TyD.enc)]::ts.map TyD.enc))],.box [.val (.slice (.agg [.int .i64 q0.kind,.str q0.name,.slice (q0.args.map PaD.enc)]::qt.map PaD.enc))],.box [.val (.slice (Row.enc r::rs.map Row.enc))],.map (seenE (headsD [] (r::rs)))],S.lo⟩:Sto) hlo5
  have h153:=c153 (kd:=kd) (consD ds t) hcl hC (headsD [] (r::rs)) ⟨S.objs++[.box [.val (.slice (ds.map DaD.enc))],.box [.val (.slice (.agg [.str t.name,.slice (t.args.map TyD.enc)]::ts.map TyD.enc))],.box [.val (.slice (.agg [.int .i64 q0.kind,.str q0.name,.slice (q0.args.map PaD.enc)]::qt.map PaD.enc))],.box [.val (.slice (Row.enc r::rs.map Row.enc))],.map (seenE (headsD [] (r::rs)))],S.lo⟩ hmm
  rw[PaD.enc_eq] at h153
  simp only[resS] at hrec ⊢
  cases x with
  |none =>
   simp only[Option.getD_none,Option.isSome_none,Option.map_none,List.map_nil] at hrec ⊢
   simp only[List.map_cons,rowsL_enc]
   rw[t.enc_eq,q0.enc_eq]
   apply tA
   ·rfl
   ·rfl
   ·exact Tryz.func97
   ·rfl
   ·rfl
   ·simp only[go_sem,Nat.reduceAdd,reduceIte];rfl
   refine tQ ?_;repeat first|with_reducible constructor|(with_reducible apply tG);kernel_rfl;intro _ _;(repeat apply tOp;intro _;simp only[List.append_assoc,List.length_append,List.length_cons,List.length_nil,List.cons_append,List.nil_append,objK,obj0,setK,set0,takeK,List.take_zero,List.take_succ_cons,List.set_cons_zero,List.set_cons_succ,List.getElem?_cons_zero,List.getElem?_cons_succ,Nat.reduceAdd,Nat.zero_add,Nat.add_zero,List.length_map,go_sem,Nat.reduceAdd,reduceIte];rfl);rfl;simp only[go_sem];rfl
   with_reducible apply tF
   ·simp only[go_sem];rfl
   ·exact eqS1 _
   refine tQ ?_;repeat first|with_reducible constructor|(with_reducible apply tG);kernel_rfl;intro _ _;(repeat apply tOp;intro _;simp only[List.append_assoc,List.length_append,List.length_cons,List.length_nil,List.cons_append,List.nil_append,objK,obj0,setK,set0,takeK,List.take_zero,List.take_succ_cons,List.set_cons_zero,List.set_cons_succ,List.getElem?_cons_zero,List.getElem?_cons_succ,Nat.reduceAdd,Nat.zero_add,Nat.add_zero,List.length_map,go_sem,Nat.reduceAdd,reduceIte];rfl);rfl;simp only[go_sem];rfl
   with_reducible apply tF
   ·simp only[go_sem];rfl
   ·exact eqS1 _
   refine tQ ?_;repeat first|with_reducible constructor|(with_reducible apply tG);kernel_rfl;intro _ _;(repeat apply tOp;intro _;simp only[List.append_assoc,List.length_append,List.length_cons,List.length_nil,List.cons_append,List.nil_append,objK,obj0,setK,set0,takeK,List.take_zero,List.take_succ_cons,List.set_cons_zero,List.set_cons_succ,List.getElem?_cons_zero,List.getElem?_cons_succ,Nat.reduceAdd,Nat.zero_add,Nat.add_zero,h73,d00,n0,List.length_map,go_sem,Nat.reduceAdd,reduceIte];rfl);rfl;simp only[go_sem];rfl
   apply tL
   ·exact l0
   refine tQ ?_;repeat first|with_reducible constructor|(with_reducible apply tG);kernel_rfl;intro _ _;(repeat apply tOp;intro _;simp only[List.append_assoc,List.length_append,List.length_cons,List.length_nil,List.cons_append,List.nil_append,objK,obj0,setK,set0,takeK,List.take_zero,List.take_succ_cons,List.set_cons_zero,List.set_cons_succ,List.getElem?_cons_zero,List.getElem?_cons_succ,Nat.reduceAdd,Nat.zero_add,Nat.add_zero,d00,n0,go_sem,Nat.reduceAdd,reduceIte];rfl);rfl;simp only[go_sem];rfl
   with_reducible apply tF
   ·simp only[go_sem];rfl
   ·exact hk
   refine tQ ?_;repeat first|with_reducible constructor|(with_reducible apply tG);kernel_rfl;intro _ _;(repeat apply tOp;intro _;simp only[List.length_map,go_sem,Nat.reduceAdd,reduceIte];rfl);rfl;simp only[go_sem];rfl
   apply tL
   ·exact l2
   refine tQ ?_;repeat first|with_reducible constructor|(with_reducible apply tG);kernel_rfl;intro _ _;(repeat apply tOp;intro _;simp only[go_sem,Nat.reduceAdd,reduceIte];rfl);rfl;simp only[go_sem];rfl
   with_reducible apply tF
   ·simp only[go_sem];rfl
   ·rfl
   refine tQ ?_;repeat first|with_reducible constructor|(with_reducible apply tG);kernel_rfl;intro _ _;(repeat apply tOp;intro _;simp only[List.append_assoc,List.length_append,List.length_cons,List.length_nil,List.cons_append,List.nil_append,objK,obj0,setK,set0,takeK,List.take_zero,List.take_succ_cons,List.set_cons_zero,List.set_cons_succ,List.getElem?_cons_zero,List.getElem?_cons_succ,Nat.reduceAdd,Nat.zero_add,Nat.add_zero,List.length_map,go_sem,Nat.reduceAdd,reduceIte];rfl);rfl;simp only[go_sem];rfl
   apply tL
   ·exact l4
   refine tQ ?_;repeat first|with_reducible constructor|(with_reducible apply tG);kernel_rfl;intro _ _;(repeat apply tOp;intro _;simp only[List.append_assoc,List.length_append,List.length_cons,List.length_nil,List.cons_append,List.nil_append,objK,obj0,setK,set0,takeK,List.take_zero,List.take_succ_cons,List.set_cons_zero,List.set_cons_succ,List.getElem?_cons_zero,List.getElem?_cons_succ,Nat.reduceAdd,Nat.zero_add,Nat.add_zero,hrec,ann97,Bool.false_eq_true,d01,n1,leS,le1S,Int.toNat_natCast,takeP,takeT,head3,headT,List.length_map,go_sem,Nat.reduceAdd,reduceIte];rfl);rfl;simp only[go_sem];rfl
   with_reducible apply tT
   ·simp only[go_sem];rfl
   ·rfl
   refine tQ ?_;repeat first|with_reducible constructor|(with_reducible apply tG);kernel_rfl;intro _ _;(repeat apply tOp;intro _;simp only[go_sem,Nat.reduceAdd,reduceIte];rfl);rfl;simp only[go_sem];rfl
   exact finE [_,_,_,_,_] rfl
  |some l =>
   have hl:=hx l rfl
   have hrm:Nat.ble (1+l.length) room=true:=by apply Nat.ble_eq_true_of_le;simp only[room];simp only[big] at hl;omega
   simp only[Option.getD_some,Option.isSome_some,Option.map_some,List.map_cons] at hrec ⊢
   rw[(beginD (consD ds t) (headsD [] (r::rs))).enc_eq]
   simp only[List.map_cons,rowsL_enc]
   rw[t.enc_eq,q0.enc_eq]
   apply tA
   ·rfl
   ·rfl
   ·exact Tryz.func97
   ·rfl
   ·rfl
   ·simp only[go_sem,Nat.reduceAdd,reduceIte];rfl
   refine tQ ?_;repeat first|with_reducible constructor|(with_reducible apply tG);kernel_rfl;intro _ _;(repeat apply tOp;intro _;simp only[List.append_assoc,List.length_append,List.length_cons,List.length_nil,List.cons_append,List.nil_append,objK,obj0,setK,set0,takeK,List.take_zero,List.take_succ_cons,List.set_cons_zero,List.set_cons_succ,List.getElem?_cons_zero,List.getElem?_cons_succ,Nat.reduceAdd,Nat.zero_add,Nat.add_zero,List.length_map,go_sem,Nat.reduceAdd,reduceIte];rfl);rfl;simp only[go_sem];rfl
   with_reducible apply tF
   ·simp only[go_sem];rfl
   ·exact eqS1 _
   refine tQ ?_;repeat first|with_reducible constructor|(with_reducible apply tG);kernel_rfl;intro _ _;(repeat apply tOp;intro _;simp only[List.append_assoc,List.length_append,List.length_cons,List.length_nil,List.cons_append,List.nil_append,objK,obj0,setK,set0,takeK,List.take_zero,List.take_succ_cons,List.set_cons_zero,List.set_cons_succ,List.getElem?_cons_zero,List.getElem?_cons_succ,Nat.reduceAdd,Nat.zero_add,Nat.add_zero,List.length_map,go_sem,Nat.reduceAdd,reduceIte];rfl);rfl;simp only[go_sem];rfl
   with_reducible apply tF
   ·simp only[go_sem];rfl
   ·exact eqS1 _
   refine tQ ?_;repeat first|with_reducible constructor|(with_reducible apply tG);kernel_rfl;intro _ _;(repeat apply tOp;intro _;simp only[List.append_assoc,List.length_append,List.length_cons,List.length_nil,List.cons_append,List.nil_append,objK,obj0,setK,set0,takeK,List.take_zero,List.take_succ_cons,List.set_cons_zero,List.set_cons_succ,List.getElem?_cons_zero,List.getElem?_cons_succ,Nat.reduceAdd,Nat.zero_add,Nat.add_zero,h73,d00,n0,List.length_map,go_sem,Nat.reduceAdd,reduceIte];rfl);rfl;simp only[go_sem];rfl
   apply tL
   ·exact l0
   refine tQ ?_;repeat first|with_reducible constructor|(with_reducible apply tG);kernel_rfl;intro _ _;(repeat apply tOp;intro _;simp only[List.append_assoc,List.length_append,List.length_cons,List.length_nil,List.cons_append,List.nil_append,objK,obj0,setK,set0,takeK,List.take_zero,List.take_succ_cons,List.set_cons_zero,List.set_cons_succ,List.getElem?_cons_zero,List.getElem?_cons_succ,Nat.reduceAdd,Nat.zero_add,Nat.add_zero,d00,n0,go_sem,Nat.reduceAdd,reduceIte];rfl);rfl;simp only[go_sem];rfl
   with_reducible apply tF
   ·simp only[go_sem];rfl
   ·exact hk
   refine tQ ?_;repeat first|with_reducible constructor|(with_reducible apply tG);kernel_rfl;intro _ _;(repeat apply tOp;intro _;simp only[List.length_map,go_sem,Nat.reduceAdd,reduceIte];rfl);rfl;simp only[go_sem];rfl
   apply tL
   ·exact l2
   refine tQ ?_;repeat first|with_reducible constructor|(with_reducible apply tG);kernel_rfl;intro _ _;(repeat apply tOp;intro _;simp only[go_sem,Nat.reduceAdd,reduceIte];rfl);rfl;simp only[go_sem];rfl
   with_reducible apply tF
   ·simp only[go_sem];rfl
   ·rfl
   refine tQ ?_;repeat first|with_reducible constructor|(with_reducible apply tG);kernel_rfl;intro _ _;(repeat apply tOp;intro _;simp only[List.append_assoc,List.length_append,List.length_cons,List.length_nil,List.cons_append,List.nil_append,objK,obj0,setK,set0,takeK,List.take_zero,List.take_succ_cons,List.set_cons_zero,List.set_cons_succ,List.getElem?_cons_zero,List.getElem?_cons_succ,Nat.reduceAdd,Nat.zero_add,Nat.add_zero,List.length_map,go_sem,Nat.reduceAdd,reduceIte];rfl);rfl;simp only[go_sem];rfl
   apply tL
   ·exact l4
   refine tQ ?_;repeat first|with_reducible constructor|(with_reducible apply tG);kernel_rfl;intro _ _;(repeat apply tOp;intro _;simp only[List.append_assoc,List.length_append,List.length_cons,List.length_nil,List.cons_append,List.nil_append,objK,obj0,setK,set0,takeK,List.take_zero,List.take_succ_cons,List.set_cons_zero,List.set_cons_succ,List.getElem?_cons_zero,List.getElem?_cons_succ,Nat.reduceAdd,Nat.zero_add,Nat.add_zero,hrec,ann97,Bool.false_eq_true,d01,n1,leS,le1S,Int.toNat_natCast,takeP,takeT,head3,headT,List.length_map,go_sem,Nat.reduceAdd,reduceIte];rfl);rfl;simp only[go_sem];rfl
   with_reducible apply tF
   ·simp only[go_sem];rfl
   ·rfl
   refine tQ ?_;repeat first|with_reducible constructor|(with_reducible apply tG);kernel_rfl;intro _ _;(repeat apply tOp;intro _;simp only[List.append_assoc,List.length_append,List.length_cons,List.length_nil,List.cons_append,List.nil_append,objK,obj0,setK,set0,takeK,List.take_zero,List.take_succ_cons,List.set_cons_zero,List.set_cons_succ,List.getElem?_cons_zero,List.getElem?_cons_succ,Nat.reduceAdd,Nat.zero_add,Nat.add_zero,h153,hrm,all3,setElems,clean,flat,List.replicate,List.set_cons_zero,List.length_map,go_sem,Nat.reduceAdd,reduceIte];rfl);rfl;simp only[go_sem];rfl
   exact finE [_,_,_,_,_] rfl
end Go.Proofs.YtkmnkiekmlcfdaaGreatDoor
