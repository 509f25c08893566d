/- Part E16 of the proof of one law of the program. -/
import Derived.Test.YtkmnkiekmlcfdaaGreatDoorE15
set_option linter.all false
set_option linter.unusedVariables false
set_option linter.unusedSimpArgs false
set_option linter.unusedSectionVars false
set_option linter.unnecessarySimpa false
namespace Go.Proofs.YtkmnkiekmlcfdaaGreatDoor
open Go.AM
attribute [local go_sem] opsK oneK stepK callK argsA capsA elemsA mvK mv asV asSl AM.asInt AM.asBool asPlace asBox asObj asMap cellsOfPlace writePlace asCells optInt sliceCut drawnPlace opS RS.look RS.put RS.putO alook tlook commit persist constS constT absV absC dstOk noRefTo guardB abin abinT isNilSlice isNilIface nilTest Nat.beq Nat.ble Nat.blt cond_true cond_false Bool.and_true Bool.true_and Bool.and_self Bool.not_true Bool.not_false Bool.or_true Bool.or_false Bool.false_or Bool.true_or Bool.and_false Bool.false_and List.all_nil List.all_cons List.contains List.elem Option.bind_some Option.map_some Option.getD_some cAgg cInt cBool cStr cSlice cFunc cNilf cNilp cNilm cLoc cMap cYld List.take_succ_cons List.take_zero List.drop_zero List.drop_succ_cons Nat.zero_add Cell.get Cell.lok AM.lok lokF noRefS partOf List.map_nil List.map_cons List.length_cons List.length_nil List.getElem?_cons_zero List.getElem?_cons_succ List.nil_append List.cons_append List.append_nil List.getElem?_toArray List.toList_toArray Option.bind_none Option.map_none objs1 objs2 objs3 objs32 oset1 setCells List.take_append_drop List.drop_nil List.take_nil Tryz.underlying0 sz3 ag3 zo3 by3 Tryz.underlying3 sz4 ag4 zo4 zc4 Tryz.underlying4 sz9 ag9 zo9 by9 Tryz.underlying9 sz22 ag22 Tryz.underlying22 sz23 ag23 se23 Tryz.underlying23 sz25 ag25 zo25 zc25 by25 Tryz.underlying25 pl25 sz26 ag26 se26 zo26 by26 Tryz.underlying26 sz30 ag30 zo30 zc30 by30 Tryz.underlying30 pl30 sz31 ag31 zc31 Tryz.underlying31 sz58 ag58 se58 Tryz.underlying58 sz61 ag61 zo61 zc61 by61 Tryz.underlying61 pl61 sz72 ag72 se72 Tryz.underlying72 sz116 ag116 zc116 Tryz.underlying116 pl116 se36 Tryz.underlying36
section
open Go.AM
attribute [local go_sem] an9 an11 an16 an17 an51 Tryz.underlying89 Tryz.underlying138 sz140 ag140 se140 Tryz.underlying140
set_option maxRecDepth 100000
set_option maxHeartbeats 1000000
variable {kd:List UInt8→Int}
def usel (R:Nat→Option (List PaD)):Nat→List PaD→List Nat
 |_,[]=>[]
 |i,_::ys=>bif (R i).isSome then usel R (i+1) ys else i::usel R (i+1) ys
theorem loop51 {ds:List DaD} (h:DsOk ds) (t:TyD) (R:Nat→Option (List PaD)) (sto:Sto) (hlo:sto.lo≤sto.objs.length) (l0:List PaD) (hR:∀ i y,l0[i]?=some y→Srch ds [t] [y] (singleD (l0.take i)) (R i)) (ys:List PaD):∀ (pre:List PaD) (X:List AVal),l0=pre++ys→(pre++ys).length+1 < big→X.length+ys.length+1 < big →
  ∃ s0 s1 s2 s4 s6 s8 s10 s12 s13 s14 s35,LP kd 51 (loopOf Tryz.f51 0) ⟨[.val (.slice (ds.map DaD.enc)),.dead,.val (.slice (l0.map PaD.enc)),.box [.val (.str t.name),.val (.slice (t.args.map TyD.enc))],.dead,.own 1 X,.dead,.dead,.val (.int .i64 (l0.length:Nat)),.val (.int .i64 (pre.length:Nat)),.dead,.dead],sto⟩ =
   some (.exit 0,⟨[s0,s1,s2,s4,s6,.own 1 (X++(usel R pre.length ys).map intE),s8,s10,s12,s13,s14,s35],sto⟩):=by
 induction ys with
 |nil =>
  intro pre X hl h3 h4
  subst hl
  have hlt:=gtI pre
  simp only[usel,List.map_nil,List.append_nil] at hlt ⊢
  iterate 11 apply Exists.intro
  refine tI rfl ?_
  refine tQ ?_;repeat first|with_reducible constructor|(with_reducible apply tG);kernel_rfl;intro _ _;(repeat apply tOp;intro _;simp only[go_sem,Nat.reduceAdd,reduceIte];rfl);rfl;simp only[go_sem];rfl
  with_reducible apply tF
  ·simp only[go_sem];rfl
  ·exact hlt
  refine tQ ?_
  repeat with_reducible constructor
  exact tlX
  all_goals exact .dead
 |cons y ys ih =>
  intro pre X hl h3 h4
  have hsr:=hR pre.length y (by rw[hl];simp)
  have htk:l0.take pre.length=pre:=by rw[hl];simp
  rw[htk] at hsr
  have hll:l0.length=(pre++y::ys).length:=by rw[hl]
  have hlt:=ltI pre ys y
  rw[←hll] at hlt h3
  have h0:=zI pre.length
  have hw:IntKind.i64.wrap (((pre.length:Nat):Int)+1)=((pre++[y]).length:Nat):=by rw[wI _ (by rw[hll] at h3;simp at h3;omega)];simp
  have hr:=roomI X (by simp at h4;omega)
  have hcut:((l0.map PaD.enc).take (((pre++[y]).length:Nat):Int).toNat).drop ((pre.length:Nat):Int).toNat=[.agg [.int .i64 y.kind,.str y.name,.slice (y.args.map PaD.enc)]]:=by
   rw[←y.enc_eq,Int.toNat_natCast,Int.toNat_natCast]
   have:l0.map PaD.enc=(pre.map PaD.enc++[y.enc])++ys.map PaD.enc:=by rw[hl];simp
   rw[this,List.take_left' (by simp),List.drop_left' (by simp)]
  have hcut2:(l0.map PaD.enc).take ((pre.length:Nat):Int).toNat=pre.map PaD.enc:=by
   rw[Int.toNat_natCast,hl,List.map_append,List.take_left' (by simp)]
  have hle:decide (((pre.length:Nat):Int)≤(((pre++[y]).length:Nat):Int))=true:=by simp;omega
  have hle2:decide ((((pre++[y]).length:Nat):Int)≤((l0.length:Nat):Int))=true:=by rw[hll];simp;omega
  have hle3:decide (((pre.length:Nat):Int)≤((l0.length:Nat):Int))=true:=by rw[hll];simp;omega
  have heq:decide ((((pre++[y]).length:Nat):Int)=(((pre++[y]).length:Nat):Int))=true:=by simp
  have heq3:decide (((pre.length:Nat):Int)=((pre.length:Nat):Int))=true:=by simp
  have hd3:=head3 pre
  have hd1:headOk 3 [.agg [.int .i64 y.kind,.str y.name,.slice (y.args.map PaD.enc)]]=true:=rfl
  have h98:=c98 (kd:=kd) pre (by rw[hll] at h3;simp at h3 ⊢;omega) sto
  have h97:=c97 (kd:=kd) h hsr sto hlo
  simp only[List.map_cons,List.map_nil,resS] at h97
  rw[t.enc_eq,y.enc_eq] at h97
  cases hq:R pre.length with
  |some w =>
   obtain ⟨s0,s1,s2,s4,s6,s8,s10,s12,s13,s14,s35,ih⟩:=ih (pre++[y]) X (by rw[hl];simp) (by rw[←List.append_cons,←hll];exact h3) (by simp at h4 ⊢;omega)
   rw[show (pre++[y]).length=pre.length+1 by simp] at ih
   simp only[usel,hq,Option.isSome_some,cond_true]
   rw[hq] at h97
   simp only[Option.isSome_some,Option.getD_some] at h97
   refine ⟨s0,s1,s2,s4,s6,s8,s10,s12,s13,s14,s35,?_⟩
   refine tI rfl ?_
   refine tQ ?_;repeat first|with_reducible constructor|(with_reducible apply tG);kernel_rfl;intro _ _;(repeat apply tOp;intro _;simp only[go_sem,Nat.reduceAdd,reduceIte];rfl);rfl;simp only[go_sem];rfl
   with_reducible apply tT
   ·simp only[go_sem];rfl
   ·exact hlt
   refine tQ ?_;repeat first|with_reducible constructor|(with_reducible apply tG);kernel_rfl;intro _ _;(repeat apply tOp;intro _;simp only[d00,n0,h0,hw,hr,hcut,hcut2,hle,hle2,hle3,heq,heq3,hd3,hd1,Bool.false_eq_true,h98,h97,ann97,setElems,clean,flat,List.replicate,List.set_cons_zero,List.length_map,go_sem,Nat.reduceAdd,reduceIte];rfl);rfl;simp only[go_sem];rfl
   with_reducible apply tF
   ·simp only[go_sem];rfl
   ·rfl
   refine tQ ?_;repeat first|with_reducible constructor|(with_reducible apply tG);kernel_rfl;intro _ _;(repeat apply tOp;intro _;simp only[hw,List.length_append,List.length_cons,List.length_nil,go_sem,Nat.reduceAdd,reduceIte];rfl);rfl;simp only[go_sem];rfl
   exact ih
  |none =>
   obtain ⟨s0,s1,s2,s4,s6,s8,s10,s12,s13,s14,s35,ih⟩:=ih (pre++[y]) (X++[intE pre.length]) (by rw[hl];simp) (by rw[←List.append_cons,←hll];exact h3) (by simp at h4 ⊢;omega)
   rw[show (pre++[y]).length=pre.length+1 by simp] at ih
   simp only[List.append_assoc,List.singleton_append] at ih
   simp only[usel,hq,Option.isSome_none,cond_false,List.map_cons]
   rw[hq] at h97
   simp only[Option.isSome_none,Option.getD_none,List.map_nil] at h97
   refine ⟨s0,s1,s2,s4,s6,s8,s10,s12,s13,s14,s35,?_⟩
   refine tI rfl ?_
   refine tQ ?_;repeat first|with_reducible constructor|(with_reducible apply tG);kernel_rfl;intro _ _;(repeat apply tOp;intro _;simp only[go_sem,Nat.reduceAdd,reduceIte];rfl);rfl;simp only[go_sem];rfl
   with_reducible apply tT
   ·simp only[go_sem];rfl
   ·exact hlt
   refine tQ ?_;repeat first|with_reducible constructor|(with_reducible apply tG);kernel_rfl;intro _ _;(repeat apply tOp;intro _;simp only[d00,n0,h0,hw,hr,hcut,hcut2,hle,hle2,hle3,heq,heq3,hd3,hd1,Bool.false_eq_true,h98,h97,ann97,setElems,clean,flat,List.replicate,List.set_cons_zero,List.length_map,go_sem,Nat.reduceAdd,reduceIte];rfl);rfl;simp only[go_sem];rfl
   with_reducible apply tT
   ·simp only[go_sem];rfl
   ·rfl
   refine tQ ?_;repeat first|with_reducible constructor|(with_reducible apply tG);kernel_rfl;intro _ _;(repeat apply tOp;intro _;simp only[hw,hr,setElems,clean,flat,List.replicate,List.set_cons_zero,List.length_append,List.length_cons,List.length_nil,go_sem,Nat.reduceAdd,reduceIte];rfl);rfl;simp only[go_sem];rfl
   exact ih
theorem c51 {ds:List DaD} (h:DsOk ds) (t:TyD) (R:Nat→Option (List PaD)) (l:List PaD) (hl:l.length+1 < big) (hR:∀ i y,l[i]?=some y→Srch ds [t] [y] (singleD (l.take i)) (R i)) (sto:Sto) (hlo:sto.lo≤sto.objs.length) :
  CF kd (.fn 51) [.val (.slice (ds.map DaD.enc)),.val t.enc,.val (.slice (l.map PaD.enc))] sto=some (.ret (.val (.slice ((usel R 0 l).map intE))),sto):=by
 obtain ⟨s0,s1,s2,s4,s6,s8,s10,s12,s13,s14,s35,hlp⟩:=loop51 (kd:=kd) h t R sto hlo l hR l [] [] rfl (by simpa using hl) (by simpa using hl)
 simp only[List.nil_append,List.length_nil] at hlp
 have e0:((0:Nat):Int)=0:=rfl
 rw[e0] at hlp
 rw[t.enc_eq]
 apply tA
 ·rfl
 ·rfl
 ·exact Tryz.func51
 ·rfl
 ·rfl
 ·simp only[go_sem,Nat.reduceAdd,reduceIte];rfl
 refine tQ ?_;repeat first|with_reducible constructor|(with_reducible apply tG);kernel_rfl;intro _ _;(repeat apply tOp;intro _;simp only[List.length_map,go_sem,Nat.reduceAdd,reduceIte];rfl);rfl;simp only[go_sem];rfl
 apply tL
 ·exact hlp
 refine tQ ?_;repeat first|with_reducible constructor|(with_reducible apply tG);kernel_rfl;intro _ _;(repeat apply tOp;intro _;simp only[go_sem,Nat.reduceAdd,reduceIte];rfl);rfl;simp only[go_sem];rfl
 exact fin0 rfl
theorem c9e {ds:List DaD} (h:DsOk ds) (t:TyD) (ht:t.size < big) (l:List PaD) (hl:PaD.sizes l+1 < big) (he:(chkPs (isK kd 4) (isK kd 3) (isK kd 2) ds t l != 0)=true) (sto:Sto) (hlo:sto.lo≤sto.objs.length) :
  CF kd (.fn 9) [.val (.slice (ds.map DaD.enc)),.val t.enc,.val (.slice (l.map PaD.enc))] sto=some (.ret (.tup [zeroPa.enc,.bool false,.int .i64 (chkPs (isK kd 4) (isK kd 3) (isK kd 2) ds t l)]),sto):=by
 have h39:=c39 (kd:=kd) h t ht l hl sto hlo
 rw[t.enc_eq] at h39 ⊢
 rw[zeroPa_enc]
 apply tA
 ·rfl
 ·rfl
 ·exact Tryz.func9
 ·rfl
 ·rfl
 ·simp only[go_sem,Nat.reduceAdd,reduceIte];rfl
 refine tQ ?_;repeat first|with_reducible constructor|(with_reducible apply tG);kernel_rfl;intro _ _;(repeat apply tOp;intro _;simp only[h39,go_sem,Nat.reduceAdd,reduceIte];rfl);rfl;simp only[go_sem];rfl
 with_reducible apply tT
 ·simp only[go_sem];rfl
 ·exact he
 refine tQ ?_;repeat first|with_reducible constructor|(with_reducible apply tG);kernel_rfl;intro _ _;(repeat apply tOp;intro _;simp only[go_sem,Nat.reduceAdd,reduceIte];rfl);rfl;simp only[go_sem];rfl
 exact fin0 rfl
theorem c9o {ds:List DaD} (h:DsOk ds) (t:TyD) (ht:t.size < big) (l:List PaD) (hl:PaD.sizes l+1 < big) (he:chkPs (isK kd 4) (isK kd 3) (isK kd 2) ds t l=0) {r:Option (List PaD)} (hs:Srch ds [t] [wildD] (singleD l) r) (hw:∀ w,r=some w→∃ w0 w',w=w0::w'∧Thin w0) (sto:Sto) (hlo:sto.lo≤sto.objs.length) :
  CF kd (.fn 9) [.val (.slice (ds.map DaD.enc)),.val t.enc,.val (.slice (l.map PaD.enc))] sto=some (.ret (.tup [(coverR r).enc,.bool (!r.isSome),.int .i64 0]),sto):=by
 have hll:=PaD.sizes_len l
 have h39:=c39 (kd:=kd) h t ht l hl sto hlo
 have h49:=c49 (kd:=kd) h t l (by omega) hs hw sto hlo
 rw[he] at h39
 rw[t.enc_eq] at h39 h49 ⊢
 rw[(coverR r).enc_eq] at h49 ⊢
 apply tA
 ·rfl
 ·rfl
 ·exact Tryz.func9
 ·rfl
 ·rfl
 ·simp only[go_sem,Nat.reduceAdd,reduceIte];rfl
 refine tQ ?_;repeat first|with_reducible constructor|(with_reducible apply tG);kernel_rfl;intro _ _;(repeat apply tOp;intro _;simp only[h39,go_sem,Nat.reduceAdd,reduceIte];rfl);rfl;simp only[go_sem];rfl
 with_reducible apply tF
 ·simp only[go_sem];rfl
 ·rfl
 refine tQ ?_;repeat first|with_reducible constructor|(with_reducible apply tG);kernel_rfl;intro _ _;(repeat apply tOp;intro _;simp only[h49,go_sem,Nat.reduceAdd,reduceIte];rfl);rfl;simp only[go_sem];rfl
 exact fin0 rfl
theorem c11e {ds:List DaD} (h:DsOk ds) (t:TyD) (ht:t.size < big) (l:List PaD) (hl:PaD.sizes l+1 < big) (he:(chkPs (isK kd 4) (isK kd 3) (isK kd 2) ds t l != 0)=true) (sto:Sto) (hlo:sto.lo≤sto.objs.length) :
  CF kd (.fn 11) [.val (.slice (ds.map DaD.enc)),.val t.enc,.val (.slice (l.map PaD.enc))] sto=some (.ret (.tup [.slice [],.int .i64 (chkPs (isK kd 4) (isK kd 3) (isK kd 2) ds t l)]),sto):=by
 have h39:=c39 (kd:=kd) h t ht l hl sto hlo
 rw[t.enc_eq] at h39 ⊢
 apply tA
 ·rfl
 ·rfl
 ·exact Tryz.func11
 ·rfl
 ·rfl
 ·simp only[go_sem,Nat.reduceAdd,reduceIte];rfl
 refine tQ ?_;repeat first|with_reducible constructor|(with_reducible apply tG);kernel_rfl;intro _ _;(repeat apply tOp;intro _;simp only[h39,go_sem,Nat.reduceAdd,reduceIte];rfl);rfl;simp only[go_sem];rfl
 with_reducible apply tT
 ·simp only[go_sem];rfl
 ·exact he
 refine tQ ?_;repeat first|with_reducible constructor|(with_reducible apply tG);kernel_rfl;intro _ _;(repeat apply tOp;intro _;simp only[go_sem,Nat.reduceAdd,reduceIte];rfl);rfl;simp only[go_sem];rfl
 exact fin0 rfl
theorem c11o {ds:List DaD} (h:DsOk ds) (t:TyD) (ht:t.size < big) (l:List PaD) (hl:PaD.sizes l+1 < big) (he:chkPs (isK kd 4) (isK kd 3) (isK kd 2) ds t l=0) (R:Nat→Option (List PaD)) (hR:∀ i y,l[i]?=some y→Srch ds [t] [y] (singleD (l.take i)) (R i)) (sto:Sto) (hlo:sto.lo≤sto.objs.length) :
  CF kd (.fn 11) [.val (.slice (ds.map DaD.enc)),.val t.enc,.val (.slice (l.map PaD.enc))] sto=some (.ret (.tup [.slice ((usel R 0 l).map intE),.int .i64 0]),sto):=by
 have hll:=PaD.sizes_len l
 have h39:=c39 (kd:=kd) h t ht l hl sto hlo
 have h51:=c51 (kd:=kd) h t R l (by omega) hR sto hlo
 rw[he] at h39
 rw[t.enc_eq] at h39 h51 ⊢
 apply tA
 ·rfl
 ·rfl
 ·exact Tryz.func11
 ·rfl
 ·rfl
 ·simp only[go_sem,Nat.reduceAdd,reduceIte];rfl
 refine tQ ?_;repeat first|with_reducible constructor|(with_reducible apply tG);kernel_rfl;intro _ _;(repeat apply tOp;intro _;simp only[h39,go_sem,Nat.reduceAdd,reduceIte];rfl);rfl;simp only[go_sem];rfl
 with_reducible apply tF
 ·simp only[go_sem];rfl
 ·rfl
 refine tQ ?_;repeat first|with_reducible constructor|(with_reducible apply tG);kernel_rfl;intro _ _;(repeat apply tOp;intro _;simp only[h51,go_sem,Nat.reduceAdd,reduceIte];rfl);rfl;simp only[go_sem];rfl
 exact fin0 rfl
theorem c17 (sto:Sto):CF kd (.fn 17) [] sto=some (.ret (.val wildD.enc),sto):=by
 rw[wildD_enc]
 apply tA
 ·rfl
 ·rfl
 ·exact Tryz.func17
 ·rfl
 ·rfl
 ·simp only[go_sem,Nat.reduceAdd,reduceIte];rfl
 refine tQ ?_;repeat first|with_reducible constructor|(with_reducible apply tG);kernel_rfl;intro _ _;(repeat apply tOp;intro _;simp only[go_sem,Nat.reduceAdd,reduceIte];rfl);rfl;simp only[go_sem];rfl
 exact fin0 rfl
theorem c16 (c:Int) (h1:-9223372036854775808≤c) (h2:c < 9223372036854775808) (n:Nat) (hn:0 < n) (hb:n < big) (sto:Sto):∃ k:Nat,k < n∧CF kd (.fn 16) [.val (.int .i64 c),.val (.int .i64 (n:Nat))] sto=some (.ret (.val (.int .i64 (k:Nat))),sto):=by
 have hz:(((n:Nat):Int)=0)=False:=by simp;omega
 have key:∀ a:Int,0≤a→∃ k:Nat,k < n∧a.tmod ((n:Nat):Int)=(k:Nat):=fun a ha=>by
  refine ⟨a.toNat % n,Nat.mod_lt _ hn,?_⟩
  rw[Int.tmod_eq_emod_of_nonneg ha,Int.natCast_emod,Int.toNat_of_nonneg ha]
 cases hc:decide (c < 0) with
 |true =>
  have hc':c < 0:=of_decide_eq_true hc
  obtain ⟨k,hk,e⟩:=key (-(c+1)) (by omega)
  refine ⟨k,hk,?_⟩
  have w1:IntKind.i64.wrap (c+1)=c+1:=wrapOk (by omega) (by omega)
  have w2:IntKind.i64.wrap (0 - (c+1))=-(c+1):=by rw[wrapOk (by omega) (by omega)];omega
  apply tA
  ·rfl
  ·rfl
  ·exact Tryz.func16
  ·rfl
  ·rfl
  ·simp only[go_sem,Nat.reduceAdd,reduceIte];rfl
  refine tQ ?_;repeat first|with_reducible constructor|(with_reducible apply tG);kernel_rfl;intro _ _;(repeat apply tOp;intro _;simp only[go_sem,Nat.reduceAdd,reduceIte];rfl);rfl;simp only[go_sem];rfl
  with_reducible apply tT
  ·simp only[go_sem];rfl
  ·exact hc
  refine tQ ?_;repeat first|with_reducible constructor|(with_reducible apply tG);kernel_rfl;intro _ _;(repeat apply tOp;intro _;simp only[w1,w2,e,hz,go_sem,Nat.reduceAdd,reduceIte];rfl);rfl;simp only[go_sem];rfl
  exact fin0 rfl
 |false =>
  have hc':¬ c < 0:=of_decide_eq_false hc
  obtain ⟨k,hk,e⟩:=key c (by omega)
  refine ⟨k,hk,?_⟩
  apply tA
  ·rfl
  ·rfl
  ·exact Tryz.func16
  ·rfl
  ·rfl
  ·simp only[go_sem,Nat.reduceAdd,reduceIte];rfl
  refine tQ ?_;repeat first|with_reducible constructor|(with_reducible apply tG);kernel_rfl;intro _ _;(repeat apply tOp;intro _;simp only[go_sem,Nat.reduceAdd,reduceIte];rfl);rfl;simp only[go_sem];rfl
  with_reducible apply tF
  ·simp only[go_sem];rfl
  ·exact hc
  refine tQ ?_;repeat first|with_reducible constructor|(with_reducible apply tG);kernel_rfl;intro _ _;(repeat apply tOp;intro _;simp only[e,hz,go_sem,Nat.reduceAdd,reduceIte];rfl);rfl;simp only[go_sem];rfl
  exact fin0 rfl
end
section
open Go.AM
attribute [local go_sem] an4 sz28 Tryz.underlying28 Tryz.underlying32 Tryz.underlying37 fd28_2 fd28_0 fd28_1
set_option maxRecDepth 100000
set_option maxHeartbeats 1000000
variable {kd:List UInt8→Int}
abbrev mid:Nat:=16777216
theorem chkPs_T {vr cn nm:List UInt8→Bool} {ds:List DaD} {t:TyD} {l:List PaD} (h:chkPs vr cn nm ds t l=0):chkT vr cn ds t=true:=by
 simp only[chkPs] at h
 cases hc:chkT vr cn ds t with
 |true=>rfl
 |false=>rw[hc] at h;simp at h
theorem ndR_single:∀ l:List PaD,ndR (singleD l)=PaD.nds l
 |[]=>rfl
 |p::l=>by
  have:=ndR_single l
  simp only[singleD,List.map_cons,ndR,PaD.nds] at this ⊢;omega
theorem single_row {l:List PaD}:∀ r∈singleD l,r.length=1:=fun r hr=>by
 simp only[singleD,List.mem_map] at hr
 obtain ⟨a,_,rfl⟩:=hr
 rfl
theorem nds_take:∀ (l:List PaD) (i:Nat),PaD.nds (l.take i)≤PaD.nds l
 |[],i=>by simp [PaD.nds]
 |p::l,0=>by simp [PaD.nds]
 |p::l,i+1=>by
  have:=nds_take l i
  simp only[List.take_succ_cons,PaD.nds];omega
theorem nd_mem:∀ {l:List PaD} {p:PaD},p∈l→p.nd≤PaD.nds l
 |x::l,p,h=>by
  simp only[PaD.nds]
  rcases List.mem_cons.1 h with h|h
  ·subst h;omega
  ·have:=nd_mem h;omega
theorem srchC {vr cn nm:List UInt8→Bool} {ds:List DaD} {t:TyD} {l:List PaD} (hl:PaD.sizes l+10 < mid) (h:chkPs vr cn nm ds t l=0):∃ r,Srch ds [t] [wildD] (singleD l) r∧∀ w,r=some w→∃ w0 w',w=w0::w'∧Thin w0:=by
 obtain ⟨hd,ht⟩:=chk_B (chkPs_T h)
 have h1:=nds_sizes l
 have h2:=ndR_single l
 have h3:=PaD.sizes_len l
 have h4:PaD.nds [wildD]=0:=nds_wilds 1
 obtain ⟨r,hr,hx⟩:=total hd _ _ [t] [wildD] (singleD l) (Nat.lt_succ_self _) (Nat.lt_succ_self _) ⟨fun a ha=>by simp at ha;subst ha;exact ht,rfl,single_row,by simp only[List.length_cons,List.length_nil,big];simp only[mid] at hl;omega,by simp only[singleD,List.length_map,big];simp only[mid] at hl;omega⟩
 refine ⟨r,hr,fun w hw=>?_⟩
 obtain ⟨e1,e2⟩:=hx w hw
 cases w with
 |nil=>cases e1
 |cons w0 w'=>exact ⟨w0,w',rfl,e2 (fun p hp=>thin_wilds 1 p (by simpa [wilds] using hp)) w0 (by simp)⟩
theorem srchU {vr cn nm:List UInt8→Bool} {ds:List DaD} {t:TyD} {l:List PaD} (hl:PaD.sizes l+10 < mid) (h:chkPs vr cn nm ds t l=0):∃ R:Nat→Option (List PaD),∀ i y,l[i]?=some y→Srch ds [t] [y] (singleD (l.take i)) (R i):=by
 obtain ⟨hd,ht⟩:=chk_B (chkPs_T h)
 have key:∀ i,∃ r:Option (List PaD),∀ y,l[i]?=some y→Srch ds [t] [y] (singleD (l.take i)) r:=by
  intro i
  cases hy:l[i]? with
  |none=>exact ⟨none,fun y h=>by cases h⟩
  |some y =>
   have h1:=nds_sizes l
   have h2:=ndR_single (l.take i)
   have h3:=PaD.sizes_len l
   have h4:=nds_take l i
   have h5:=nd_mem (List.mem_of_getElem? hy)
   obtain ⟨r,hr,_⟩:=total hd _ _ [t] [y] (singleD (l.take i)) (Nat.lt_succ_self _) (Nat.lt_succ_self _) ⟨fun a ha=>by simp at ha;subst ha;exact ht,rfl,single_row,by simp only[PaD.nds,List.length_cons,List.length_nil,big];simp only[mid] at hl;omega,by simp only[singleD,List.length_map,List.length_take,big];simp only[mid] at hl;omega⟩
   exact ⟨r,fun y' hy'=>by cases hy';exact hr⟩
 exact ⟨fun i=>Classical.choose (key i),fun i=>Classical.choose_spec (key i)⟩
theorem single_mem {l:List PaD} {p:PaD} (h:p∈l):[p]∈singleD l:=List.mem_map.2 ⟨p,h,rfl⟩
theorem order1 {ds:List DaD} {t:TyD} {l m:List PaD} (hsub:∀ p∈l,p∈m) {r:Option (List PaD)} (h1:Srch ds [t] [wildD] (singleD l) none) (h2:Srch ds [t] [wildD] (singleD m) r):r=none :=
 mono h2 [] [] _ _ _ rfl rfl rfl h1 fun x hx=>by
  simp only[singleD,List.mem_map] at hx
  obtain ⟨p,hp,rfl⟩:=hx
  exact ⟨[],rfl,by simp,single_mem (hsub p hp)⟩
theorem order2 {ds:List DaD} {t:TyD} {y:PaD} {m:List PaD} (hm:wildD∈m) {r:Option (List PaD)} (h2:Srch ds [t] [y] (singleD m) r):r=none:=by
 have h1:Srch ds [] [] [[]] none:=Srch.done (ds:=ds) (ts:=[]) (rows:=[[]])
 exact mono h2 [t] [y] _ _ _ rfl rfl rfl h1 fun x hx=>by
  simp only[List.mem_singleton] at hx
  subst hx
  exact ⟨[wildD],rfl,fun p hp=>by simp only[List.mem_singleton] at hp;subst hp;rfl,by simpa using single_mem hm⟩
def inL (i:Nat) (ys:List Nat):Bool:=ys.any fun y=>((y:Nat):Int)==((i:Nat):Int)
theorem usel_in {R:Nat→Option (List PaD)} {j:Nat} (hj:R j=none):∀ (ys:List PaD) (i:Nat),i≤j→j < i+ys.length→inL j (usel R i ys)=true
 |[],i,h1,h2=>by simp at h2;omega
 |y::ys,i,h1,h2=>by
  simp only[usel]
  by_cases h:i=j
  ·subst h
   simp only[hj,Option.isSome_none,cond_false,inL,List.any_cons,beq_self_eq_true,Bool.true_or]
  ·have:=usel_in hj ys (i+1) (by omega) (by simp at h2;omega)
   cases (R i).isSome
   ·simp only[cond_false,inL,List.any_cons] at this ⊢;rw[this,Bool.or_true]
   ·exact this
theorem usel_len {R:Nat→Option (List PaD)}:∀ (ys:List PaD) (i:Nat),(usel R i ys).length≤ys.length
 |[],i=>Nat.le_refl _
 |y::ys,i=>by
  have:=usel_len (R:=R) ys (i+1)
  simp only[usel]
  cases (R i).isSome <;> simp only[cond_false,cond_true,List.length_cons] <;> omega
theorem loop4b (W:List AVal) (us:List Nat) (hu:us.length+1 < big) (i:Nat) (sto:Sto) (ys:List Nat):∀ (pre:List Nat) (b:Bool),us=pre++ys →
  ∃ s0 s1 s2 s3 s4 s6 s8 s9 s11 s12 s14 s15 s18 s21 s77 s102 s109 s115 s128,LP kd 4 (loopOf Tryz.f4 1) ⟨[.dead,.dead,.dead,.dead,.dead,.dead,.val (.bool true),.dead,.dead,.dead,.dead,.dead,.dead,.own 3 W,.val (.slice (us.map intE)),.dead,.val (.int .i64 (i:Nat)),.val (.bool b),.val (.int .i64 (pre.length:Nat)),.dead,.dead,.dead,.dead,.dead],sto⟩ =
   some (.exit 2,⟨[s0,s1,s2,s3,s4,s6,.val (.bool true),s8,s9,s11,s12,s14,s15,.own 3 W,.val (.slice (us.map intE)),s18,.val (.int .i64 (i:Nat)),.val (.bool (b||inL i ys)),s21,s77,s102,s109,s115,s128],sto⟩):=by
 induction ys with
 |nil =>
  intro pre b hl
  subst hl
  have hlt:=gtI pre
  simp only[inL,List.any_nil,Bool.or_false,List.append_nil] at hlt ⊢
  iterate 19 apply Exists.intro
  refine tI rfl ?_
  refine tQ ?_;repeat first|with_reducible constructor|(with_reducible apply tG);kernel_rfl;intro _ _;(repeat apply tOp;intro _;simp only[List.length_map,go_sem,Nat.reduceAdd,reduceIte];rfl);rfl;simp only[go_sem];rfl
  with_reducible apply tF
  ·simp only[go_sem];rfl
  ·exact hlt
  refine tQ ?_
  repeat with_reducible constructor
  exact tlX
  all_goals exact .dead
 |cons y ys ih =>
  intro pre b hl
  have hll:us.length=(pre++y::ys).length:=by rw[hl]
  have hlt:=ltI pre ys y
  rw[←hll] at hlt
  have h0:=zI pre.length
  have hw:IntKind.i64.wrap (((pre.length:Nat):Int)+1)=((pre++[y]).length:Nat):=by rw[wI _ (by rw[hll] at hu;simp at hu;omega)];simp
  have hget:(us.map intE)[((pre.length:Nat):Int).toNat]?=some (.int .i64 (y:Nat)):=by rw[hl];simp [intE]
  have hin:inL i (y::ys)=((((y:Nat):Int)==((i:Nat):Int))||inL i ys):=by simp only[inL,List.any_cons]
  have hR:∀ (K':AExit→St→Option (AExit×St)) (r:AExit×St),K' .norm ⟨[.dead,.dead,.dead,.dead,.dead,.dead,.val (.bool true),.dead,.dead,.dead,.dead,.dead,.dead,.own 3 W,.val (.slice (us.map intE)),.dead,.val (.int .i64 (i:Nat)),.val (.bool (b||(((y:Nat):Int)==((i:Nat):Int)))),.val (.int .i64 (pre.length:Nat)),.dead,.dead,.dead,.val (.bool (decide (((pre.length:Nat):Int) < ((us.length:Nat):Int)))),.dead],sto⟩=some r →
    XK Tryz.prog ans (CF kd) (LP kd) 4 (regOf Tryz.f4 20) ⟨[.dead,.dead,.dead,.dead,.dead,.dead,.val (.bool true),.dead,.dead,.dead,.dead,.dead,.dead,.own 3 W,.val (.slice (us.map intE)),.dead,.val (.int .i64 (i:Nat)),.val (.bool b),.val (.int .i64 (pre.length:Nat)),.dead,.dead,.dead,.val (.bool (decide (((pre.length:Nat):Int) < ((us.length:Nat):Int)))),.dead],sto⟩ K'=some r:=by
   intro K' r hK
   rw[regQ_eq (by rfl)]
   cases b with
   |true =>
    simp only[Bool.true_or] at hK
    first|((with_reducible apply tR);(focus (intro _ _;(repeat (apply tOp;(focus (intro _;simp only[hget,h0,go_sem,Nat.reduceAdd,reduceIte];rfl))));rfl));(focus (simp only[go_sem,Nat.reduceAdd,reduceIte];rfl)))
    exact hK
   |false =>
    simp only[Bool.false_or] at hK
    first|((with_reducible apply tR);(focus (intro _ _;(repeat (apply tOp;(focus (intro _;simp only[hget,h0,go_sem,Nat.reduceAdd,reduceIte];rfl))));rfl));(focus (simp only[go_sem,Nat.reduceAdd,reduceIte];rfl)))
    exact hK
  rw[regQ_eq (by rfl)] at hR
  obtain ⟨s0,s1,s2,s3,s4,s6,s8,s9,s11,s12,s14,s15,s18,s21,s77,s102,s109,s115,s128,ih⟩:=ih (pre++[y]) (b||(((y:Nat):Int)==((i:Nat):Int))) (by rw[hl];simp)
  rw[hin,←Bool.or_assoc]
  refine ⟨s0,s1,s2,s3,s4,s6,s8,s9,s11,s12,s14,s15,s18,s21,s77,s102,s109,s115,s128,?_⟩
  refine tI rfl ?_
  refine tQ ?_;repeat first|with_reducible constructor|(with_reducible apply tG);kernel_rfl;intro _ _;(repeat apply tOp;intro _;simp only[List.length_map,go_sem,Nat.reduceAdd,reduceIte];rfl);rfl;simp only[go_sem];rfl
  with_reducible apply tT
  ·simp only[go_sem];rfl
  ·exact hlt
  refine tQ ?_
  repeat with_reducible constructor
  refine tQ ?_
  repeat with_reducible constructor
  refine hR _ _ ?_
  refine tQ ?_;repeat first|with_reducible constructor|(with_reducible apply tG);kernel_rfl;intro _ _;(repeat apply tOp;intro _;simp only[hw,go_sem,Nat.reduceAdd,reduceIte];rfl);rfl;simp only[go_sem];rfl
  exact ih
theorem loop4a (W:List AVal) (us:List Nat) (hu:us.length+1 < big) (hW:W.length+1 < big) (k0:Nat) (hall:∀ j,k0≤j→j < W.length→inL j us=true) (sto:Sto) (m:Nat):∀ i,i+m=W.length→k0≤i →
  ∃ s0 s1 s2 s3 s4 s6 s8 s9 s11 s12 s14 s15 s16 s17 s18 s19 s20 s21 s77 s102 s109 s115 s128,LP kd 4 (loopOf Tryz.f4 0) ⟨[.dead,.dead,.dead,.dead,.dead,.dead,.val (.bool true),.dead,.dead,.dead,.dead,.dead,.dead,.own 3 W,.val (.slice (us.map intE)),.dead,.val (.int .i64 (i:Nat)),.dead,.dead,.dead,.dead,.dead,.dead,.dead],sto⟩ =
   some (.exit 0,⟨[s0,s1,s2,s3,s4,s6,.val (.bool true),s8,s9,s11,s12,s14,s15,s16,s17,s18,s19,s20,s21,s77,s102,s109,s115,s128],sto⟩):=by
 induction m with
 |zero =>
  intro i hi hk
  have hlt:decide (((i:Nat):Int) < ((W.length:Nat):Int))=false:=by simp;omega
  iterate 23 apply Exists.intro
  refine tI rfl ?_
  refine tQ ?_;repeat first|with_reducible constructor|(with_reducible apply tG);kernel_rfl;intro _ _;(repeat apply tOp;intro _;simp only[go_sem,Nat.reduceAdd,reduceIte];rfl);rfl;simp only[go_sem];rfl
  with_reducible apply tF
  ·simp only[go_sem];rfl
  ·exact hlt
  refine tQ ?_
  repeat with_reducible constructor
  exact tlX
  all_goals exact .dead
 |succ m ihm =>
  intro i hi hk
  have hlt:decide (((i:Nat):Int) < ((W.length:Nat):Int))=true:=by simp;omega
  have hw:IntKind.i64.wrap (((i:Nat):Int)+1)=((i+1:Nat):Int):=wI _ (by omega)
  obtain ⟨s0,s1,s2,s3,s4,s6,s8,s9,s11,s12,s14,s15,s18,s21,s77,s102,s109,s115,s128,hb⟩:=loop4b (kd:=kd) W us hu i sto us [] false rfl
  simp only[List.length_nil,Bool.false_or,hall i hk (by omega)] at hb
  have e0:((0:Nat):Int)=0:=rfl
  rw[e0] at hb
  obtain ⟨m0,m1,m2,m3,m4,m6,m8,m9,m11,m12,m14,m15,m16,m17,m18,m19,m20,m21,m77,m102,m109,m115,m128,ih⟩:=ihm (i+1) (by omega) (by omega)
  refine ⟨m0,m1,m2,m3,m4,m6,m8,m9,m11,m12,m14,m15,m16,m17,m18,m19,m20,m21,m77,m102,m109,m115,m128,?_⟩
  refine tI rfl ?_
  refine tQ ?_;repeat first|with_reducible constructor|(with_reducible apply tG);kernel_rfl;intro _ _;(repeat apply tOp;intro _;simp only[go_sem,Nat.reduceAdd,reduceIte];rfl);rfl;simp only[go_sem];rfl
  with_reducible apply tT
  ·simp only[go_sem];rfl
  ·exact hlt
  refine tQ ?_;repeat first|with_reducible constructor|(with_reducible apply tG);kernel_rfl;intro _ _;(repeat apply tOp;intro _;simp only[go_sem,Nat.reduceAdd,reduceIte];rfl);rfl;simp only[go_sem];rfl
  apply tL
  ·exact hb
  refine tQ ?_;repeat first|with_reducible constructor|(with_reducible apply tG);kernel_rfl;intro _ _;(repeat apply tOp;intro _;simp only[go_sem,Nat.reduceAdd,reduceIte];rfl);rfl;simp only[go_sem];rfl
  with_reducible apply tF
  ·simp only[go_sem];rfl
  ·rfl
  refine tQ ?_;repeat first|with_reducible constructor|(with_reducible apply tG);kernel_rfl;intro _ _;(repeat apply tOp;intro _;simp only[hw,go_sem,Nat.reduceAdd,reduceIte];rfl);rfl;simp only[go_sem];rfl
  exact ih
theorem c9x {ds:List DaD} (h:DsOk ds) (t:TyD) (ht:t.size < big) (l:List PaD) (hl:PaD.sizes l+10 < mid) (sto:Sto) (hlo:sto.lo≤sto.objs.length):∃ (w:PaD) (x:Bool) (e:Int),
  CF kd (.fn 9) [.val (.slice (ds.map DaD.enc)),.val t.enc,.val (.slice (l.map PaD.enc))] sto=some (.ret (.tup [w.enc,.bool x,.int .i64 e]),sto)∧(e=0→∃ r,Srch ds [t] [wildD] (singleD l) r∧x=!r.isSome):=by
 have hl':PaD.sizes l+1 < big:=by simp only[mid] at hl;simp only[big];omega
 by_cases he:chkPs (isK kd 4) (isK kd 3) (isK kd 2) ds t l=0
 ·obtain ⟨r,hr,hw⟩:=srchC hl he
  exact ⟨_,_,_,c9o h t ht l hl' he hr hw sto hlo,fun _=>⟨r,hr,rfl⟩⟩
 ·exact ⟨_,_,_,c9e h t ht l hl' (by simpa using he) sto hlo,fun h=>absurd h he⟩
theorem c11x {ds:List DaD} (h:DsOk ds) (t:TyD) (ht:t.size < big) (l:List PaD) (hl:PaD.sizes l+10 < mid) (sto:Sto) (hlo:sto.lo≤sto.objs.length):∃ (us:List Nat) (e:Int),
  CF kd (.fn 11) [.val (.slice (ds.map DaD.enc)),.val t.enc,.val (.slice (l.map PaD.enc))] sto=some (.ret (.tup [.slice (us.map intE),.int .i64 e]),sto)∧us.length≤l.length∧(e=0→∃ R:Nat→Option (List PaD),(∀ i y,l[i]?=some y→Srch ds [t] [y] (singleD (l.take i)) (R i))∧us=usel R 0 l):=by
 have hl':PaD.sizes l+1 < big:=by simp only[mid] at hl;simp only[big];omega
 by_cases he:chkPs (isK kd 4) (isK kd 3) (isK kd 2) ds t l=0
 ·obtain ⟨R,hR⟩:=srchU hl he
  exact ⟨_,_,c11o h t ht l hl' he R hR sto hlo,usel_len l 0,fun _=>⟨R,hR,rfl⟩⟩
 ·exact ⟨[],_,c11e h t ht l hl' (by simpa using he) sto hlo,Nat.zero_le _,fun h=>absurd h he⟩
theorem sizes_append:∀ a b:List PaD,PaD.sizes (a++b)=PaD.sizes a+PaD.sizes b
 |[],b=>by simp [PaD.sizes]
 |p::a,b=>by simp only[List.cons_append,PaD.sizes,sizes_append a b];omega
def askE (ds:List DaD) (t:TyD) (l:List PaD):AVal:=.agg [.slice (ds.map DaD.enc),.str t.name,.slice (t.args.map TyD.enc),.slice (l.map PaD.enc)]
theorem c4 {ds:List DaD} (h:DsOk ds) (t:TyD) (ht:t.size < big) (p:PaD) (l:List PaD) (hl:PaD.sizes l+p.size+20 < mid) (n:Int) (n1:-9223372036854775808≤n) (n2:n < 9223372036854775808) (sto:Sto) (hlo:sto.lo≤sto.objs.length) (h13:CF kd (.fn 13) [] sto=some (.ret (.val (.bool true)),sto)) :
  CF kd (.fn 4) [.val (askE ds t l),.val p.enc,.val (.int .i64 n)] sto=some (.ret (.val (.bool true)),sto):=by
 have hll:=PaD.sizes_len l
 obtain ⟨k,hk,h16⟩:=c16 (kd:=kd) n n1 n2 (l.length+1) (by omega) (by simp only[mid] at hl;simp only[big];omega) sto
 have hw1:IntKind.i64.wrap (((l.length:Nat):Int)+1)=((l.length+1:Nat):Int):=wI _ (by simp only[mid] at hl;simp only[big];omega)
 obtain ⟨A,B,hAB,hkA⟩:∃ A B,l=A++B∧k=A.length:=⟨l.take k,l.drop k,(List.take_append_drop k l).symm,by simp;omega⟩
 subst hkA
 have hszA:=sizes_append A B
 have hszM:=sizes_append A (p::B)
 have hszW:=sizes_append A (wildD::B)
 simp only[PaD.sizes] at hszM hszW
 have hws:wildD.size=1:=by simp [wildD,PaD.size,PaD.sizes]
 rw[←hAB] at hszA
 have hAl:=PaD.sizes_len A
 have hBl:=PaD.sizes_len B
 obtain ⟨wa,xa,ea,h9a,Ha⟩:=c9x (kd:=kd) h t ht l (by omega) sto hlo
 obtain ⟨wb,xb,eb,h9b,Hb⟩:=c9x (kd:=kd) h t ht (A++p::B) (by omega) sto hlo
 obtain ⟨us,eg,h11,hus,Hg⟩:=c11x (kd:=kd) h t ht (A++wildD::B) (by omega) sto hlo
 have hno:(ea==0)=true→(eb==0)=true→xa=true→xb=true:=fun h1 h2 h3=>by
  obtain ⟨r,hr,e1⟩:=Ha (by simpa using h1)
  obtain ⟨r',hr',e2⟩:=Hb (by simpa using h2)
  have hrn:r=none:=by rw[e1] at h3;cases r with|none=>rfl|some _=>cases h3
  rw[hrn] at hr
  have:=order1 (m:=A++p::B) (fun x hx=>by rw[hAB] at hx;simp at hx ⊢;rcases hx with hx|hx <;> simp [hx]) hr hr'
  rw[e2,this];rfl
 have h17:=c17 (kd:=kd) sto
 have eM:(A++p::B).map PaD.enc=A.map PaD.enc++[.agg [.int .i64 p.kind,.str p.name,.slice (p.args.map PaD.enc)]]++B.map PaD.enc:=by rw[←p.enc_eq];simp
 have eW:(A++wildD::B).map PaD.enc=A.map PaD.enc++[.agg [.int .i64 1,.str [],.slice []]]++B.map PaD.enc:=by rw[←wildD_enc];simp
 have hA0:=zI A.length
 have hAle:decide (((A.length:Nat):Int)≤((l.length:Nat):Int))=true:=by rw[hAB];simp;omega
 have hlle:decide (((l.length:Nat):Int)≤((l.length:Nat):Int))=true:=by simp
 have hcA:(l.map PaD.enc).take ((A.length:Nat):Int).toNat=A.map PaD.enc:=by rw[Int.toNat_natCast,hAB,List.map_append,List.take_left' (by simp)]
 have hcB:((l.map PaD.enc).take ((l.length:Nat):Int).toNat).drop ((A.length:Nat):Int).toNat=B.map PaD.enc:=by
  rw[Int.toNat_natCast,Int.toNat_natCast,List.take_of_length_le (by simp),hAB,List.map_append,List.drop_left' (by simp)]
 have hdA:=head3 A
 have hdB:=head3 B
 have haA:=all3 A
 have haB:=all3 B
 have hr1:Nat.ble A.length room=true:=by apply Nat.ble_eq_true_of_le;simp only[room];simp only[mid] at hl;omega
 have hr2:Nat.ble (A.length+1) room=true:=by apply Nat.ble_eq_true_of_le;simp only[room];simp only[mid] at hl;omega
 have hr3:Nat.ble (A.length+1+B.length) room=true:=by apply Nat.ble_eq_true_of_le;simp only[room];simp only[mid] at hl;omega
 have hw2:IntKind.i64.wrap (((A.length:Nat):Int)+1)=((A.length+1:Nat):Int):=wI _ (by simp only[mid] at hl;simp only[big];omega)
 rw[t.enc_eq] at h9a h9b h11
 rw[wa.enc_eq] at h9a
 rw[wb.enc_eq] at h9b
 rw[wildD_enc] at h17
 rw[eM] at h9b
 rw[eW] at h11
 rw[p.enc_eq]
 simp only[askE]
 have hR7:∀ (K':AExit→St→Option (ARes×Sto)) (r:ARes×Sto) (s0 s1 s2 s3 s4 s6 s7 s8 s9 s16 s17 s18 s19 s20 s21 s102 s109 s115 s128: Slot),(∀ s77,s77=.val (.bool false)→K' .norm ⟨[s0,s1,s2,s3,s4,s6,s7,s8,s9,.val (.bool xa),.val (.int .i64 ea),.val (.bool xb),.val (.int .i64 eb),s16,s17,s18,s19,s20,s21,s77,s102,s109,s115,s128],sto⟩=some r) →
   ∀ s77,XK Tryz.prog ans (CF kd) (LP kd) 4 (regOf Tryz.f4 7) ⟨[s0,s1,s2,s3,s4,s6,s7,s8,s9,.val (.bool xa),.val (.int .i64 ea),.val (.bool xb),.val (.int .i64 eb),s16,s17,s18,s19,s20,s21,s77,s102,s109,s115,s128],sto⟩ K'=some r:=by
  intro K' r s0 s1 s2 s3 s4 s6 s7 s8 s9 s16 s17 s18 s19 s20 s21 s102 s109 s115 s128 hK s77
  have hK:=hK _ rfl
  rw[regQ_eq (by rfl)]
  cases g1:(ea==0) with
  |false =>
   first|((with_reducible apply tR);(focus (intro _ _;(repeat (apply tOp;(focus (intro _;simp only[g1,go_sem,Nat.reduceAdd,reduceIte];rfl))));rfl));(focus (simp only[go_sem,Nat.reduceAdd,reduceIte];rfl)))
   exact hK
  |true =>
   cases g2:(eb==0) with
   |false =>
    first|((with_reducible apply tR);(focus (intro _ _;(repeat (apply tOp;(focus (intro _;simp only[g1,g2,go_sem,Nat.reduceAdd,reduceIte];rfl))));rfl));(focus (simp only[go_sem,Nat.reduceAdd,reduceIte];rfl)))
    exact hK
   |true =>
    cases xa with
    |false =>
     first|((with_reducible apply tR);(focus (intro _ _;(repeat (apply tOp;(focus (intro _;simp only[g1,g2,go_sem,Nat.reduceAdd,reduceIte];rfl))));rfl));(focus (simp only[go_sem,Nat.reduceAdd,reduceIte];rfl)))
     exact hK
    |true =>
     have:=hno g1 g2 rfl
     subst this
     first|((with_reducible apply tR);(focus (intro _ _;(repeat (apply tOp;(focus (intro _;simp only[g1,g2,go_sem,Nat.reduceAdd,reduceIte];rfl))));rfl));(focus (simp only[go_sem,Nat.reduceAdd,reduceIte];rfl)))
     exact hK
 rw[regQ_eq (by rfl)] at hR7
 apply tA
 ·rfl
 ·rfl
 ·exact Tryz.func4
 ·rfl
 ·rfl
 ·simp only[go_sem,Nat.reduceAdd,reduceIte];rfl
 refine tQ ?_;repeat first|with_reducible constructor|(with_reducible apply tG);kernel_rfl;intro _ _;(repeat apply tOp;intro _;simp only[h13,h16,hw1,List.length_map,go_sem,Nat.reduceAdd,reduceIte];rfl);rfl;simp only[go_sem];rfl
 refine tQ ?_;repeat first|with_reducible constructor|(with_reducible apply tG);kernel_rfl;intro _ _;(repeat apply tOp;intro _;simp only[d00,n0,hA0,hAle,hlle,hcA,hcB,hdA,hdB,haA,haB,hr1,hr2,hr3,Bool.false_eq_true,setElems,clean,flat,List.replicate,List.set_cons_zero,List.length_map,go_sem,Nat.reduceAdd,reduceIte];rfl);rfl;simp only[go_sem];rfl
 refine tQ ?_;repeat first|with_reducible constructor|(with_reducible apply tG);kernel_rfl;intro _ _;(repeat apply tOp;intro _;simp only[d00,n0,hA0,hAle,hlle,hcA,hcB,hdA,hdB,haA,haB,hr1,hr2,hr3,Bool.false_eq_true,setElems,clean,flat,List.replicate,List.set_cons_zero,List.length_map,List.length_append,go_sem,Nat.reduceAdd,reduceIte];rfl);rfl;simp only[go_sem];rfl
 refine tQ ?_;repeat first|with_reducible constructor|(with_reducible apply tG);kernel_rfl;intro _ _;(repeat apply tOp;intro _;simp only[h9a,h9b,go_sem,Nat.reduceAdd,reduceIte];rfl);rfl;simp only[go_sem];rfl
 apply hR7
 intro s77 hs77
 subst hs77
 refine tQ ?_;repeat first|with_reducible constructor|(with_reducible apply tG);kernel_rfl;intro _ _;(repeat apply tOp;intro _;simp only[go_sem,Nat.reduceAdd,reduceIte];rfl);rfl;simp only[go_sem];rfl
 with_reducible apply tF
 ·simp only[go_sem];rfl
 ·rfl
 refine tQ ?_;repeat first|with_reducible constructor|(with_reducible apply tG);kernel_rfl;intro _ _;(repeat apply tOp;intro _;simp only[d00,n0,hA0,hAle,hlle,hcA,hcB,hdA,hdB,haA,haB,hr1,hr2,hr3,h17,Bool.false_eq_true,setElems,clean,flat,List.replicate,List.set_cons_zero,List.length_map,List.length_append,go_sem,Nat.reduceAdd,reduceIte];rfl);rfl;simp only[go_sem];rfl
 refine tQ ?_;repeat first|with_reducible constructor|(with_reducible apply tG);kernel_rfl;intro _ _;(repeat apply tOp;intro _;simp only[h11,go_sem,Nat.reduceAdd,reduceIte];rfl);rfl;simp only[go_sem];rfl
 cases hg:(eg != 0) with
 |true =>
  with_reducible apply tT
  ·simp only[go_sem];rfl
  ·rfl
  refine tQ ?_;repeat first|with_reducible constructor|(with_reducible apply tG);kernel_rfl;intro _ _;(repeat apply tOp;intro _;simp only[go_sem,Nat.reduceAdd,reduceIte];rfl);rfl;simp only[go_sem];rfl
  exact fin0 rfl
 |false =>
  obtain ⟨R,hR,hus'⟩:=Hg (by simpa using hg)
  have hlen:(A.map PaD.enc++[.agg [.int .i64 1,.str [],.slice []]]++B.map PaD.enc:List AVal).length=(A++wildD::B).length:=by simp
  have hall:∀ j,A.length+1≤j→j < (A.map PaD.enc++[.agg [.int .i64 1,.str [],.slice []]]++B.map PaD.enc:List AVal).length→inL j us=true:=by
   intro j h1 h2
   rw[hlen] at h2
   rw[hus']
   have hj:=hR j _ (List.getElem?_eq_getElem h2)
   refine usel_in (order2 (m:=(A++wildD::B).take j) ?_ hj) _ 0 (Nat.zero_le _) (by simpa using h2)
   rw[List.take_append,List.take_of_length_le (by omega)]
   refine List.mem_append_right _ ?_
   rw[show j - A.length=(j - A.length - 1)+1 by omega,List.take_succ_cons]
   exact List.mem_cons_self
  have hllen:=PaD.sizes_len (A++wildD::B)
  obtain ⟨s0,s1,s2,s3,s4,s6,s8,s9,s11,s12,s14,s15,s16,s17,s18,s19,s20,s21,s77,s102,s109,s115,s128,hlp⟩:=loop4a (kd:=kd) _ us (by simp only[mid] at hl;simp only[big];omega) (by rw[hlen];simp only[mid] at hl;simp only[big];omega) (A.length+1) hall sto (B.length) (A.length+1) (by rw[hlen];simp;omega) (Nat.le_refl _)
  with_reducible apply tF
  ·simp only[go_sem];rfl
  ·rfl
  refine tQ ?_;repeat first|with_reducible constructor|(with_reducible apply tG);kernel_rfl;intro _ _;(repeat apply tOp;intro _;simp only[hw2,go_sem,Nat.reduceAdd,reduceIte];rfl);rfl;simp only[go_sem];rfl
  apply tL
  ·exact hlp
  refine tQ ?_;repeat first|with_reducible constructor|(with_reducible apply tG);kernel_rfl;intro _ _;(repeat apply tOp;intro _;simp only[go_sem,Nat.reduceAdd,reduceIte];rfl);rfl;simp only[go_sem];rfl
  exact fin0 rfl
end
end Go.Proofs.YtkmnkiekmlcfdaaGreatDoor
