import Derived.Test.YtdkkaldimefljaaGreatDoorX32
import Derived.Test.YtdkkaldimefljaaGreatDoorX12
import Derived.Below
import Derived.Test.YtdkkaldimefljaaGreatDoorX31
import Derived.Test.YtdkkaldimefljaaGreatDoorX11
set_option linter.all false
section
namespace Go.Proofs.YtdkkaldimefljaaGreatDoor
open Go.AM
attribute [local go_sem] opsK oneK guardK stepK callK argsA capsA elemsA mvK mv asV asSl AM.asInt AM.asBool asPlace asBox asObj asMap cellsOfPlace writePlace asCells boxCells optInt sliceCut drawnPlace opS RS.look RS.put RS.putO alook tlook commit persist constS constT absV absC dstOk noRefTo guardB abin abinT isNilSlice isNilIface nilTest Nat.beq Nat.ble Nat.blt cond_true cond_false Bool.and_true Bool.true_and Bool.and_self Bool.not_true Bool.not_false Bool.or_true Bool.or_false Bool.false_or Bool.true_or Bool.and_false Bool.false_and List.all_nil List.all_cons List.contains List.elem Option.bind_some Option.map_some Option.getD_some cAgg cInt cBool cStr cSlice cFunc cNilf cNilp cNilm cLoc cMap cYld List.take_succ_cons List.take_zero List.drop_zero List.drop_succ_cons Nat.zero_add Cell.get Cell.lok AM.lok lokF noRefS partOf List.map_nil List.map_cons List.length_cons List.length_nil List.getElem?_cons_zero List.getElem?_cons_succ List.nil_append List.cons_append List.append_nil List.getElem?_toArray List.toList_toArray Option.bind_none Option.map_none objs1 objs2 objs3 objs32 oset1 setCells List.take_append_drop List.drop_nil List.take_nil an23 an39 an108 sz0 ag0 by0 Tryz.underlying0 sz3 ag3 zo3 zc3 by3 Tryz.underlying3 sz9 ag9 zo9 zc9 by9 Tryz.underlying9 sz25 ag25 se25 zo25 zc25 by25 Tryz.underlying25 sz27 ag27 zo27 zc27 by27 Tryz.underlying27 pl27 sz87 ag87 zo87 zc87 by87 Tryz.underlying87 sz4 ag4 zo4 zc4 by4 Tryz.underlying4 sz154 ag154 zo154 zc154 by154 Tryz.underlying154
set_option maxRecDepth 100000
set_option maxHeartbeats 8000000
theorem bltS (n:Nat):Nat.blt n n=false:=by
 simp only[Nat.blt]
 exact Bool.eq_false_iff.2 fun h=>by have:=Nat.le_of_ble_eq_true h;omega
theorem finV {P:Program} {an:Ann} {fn:Func} {n:Nat} {tm:List Slot} {sto:Sto} {v:AVal} {t:Nat} (h1:an.ownRes=false) (h2:fn.results.toList=[.tmp t]) (h3:tlook an.keep tm t=.val v) (h4:lok n v=false):finish P an fn n ⟨tm,sto⟩=some (.ret (.val v),sto):=by
 simp only[finish,h1,h2,resK,h3,asV,trim,slotLok,h4,cond_false]
theorem c39 (l:List VaD) (sto:Sto):CF (.fn 39) [.val (.slice (l.map VaD.enc))] sto=some (.ret (.val (.func 108 [.loc sto.objs.length 0])),⟨sto.objs++[.box [.val (.slice (l.map VaD.enc))]],sto.lo⟩):=by
 apply tA
 ·rfl
 ·rfl
 ·exact Tryz.func39
 ·rfl
 ·rfl
 ·simp only[go_sem,Nat.reduceAdd,reduceIte];rfl
 refine tQ ?_
 repeat first|with_reducible constructor|with_reducible refine tW rfl ?_|((with_reducible apply tG);(focus kernel_rfl);(focus (intro _ _;(repeat (apply tOp;(focus (intro _;simp only[List.append_assoc,List.length_append,List.length_cons,List.length_nil,List.cons_append,List.nil_append,objK,obj0,setK,set0,takeK,List.take_zero,List.take_succ_cons,List.set_cons_zero,List.set_cons_succ,List.getElem?_cons_zero,List.getElem?_cons_succ,Nat.reduceAdd,Nat.zero_add,go_sem,Nat.reduceAdd,reduceIte];rfl))));rfl));(focus (simp only[go_sem,Nat.reduceAdd,reduceIte];rfl)))
 refine finV (t:=2) rfl rfl rfl ?_
 simp only[lok,List.all_cons,lokF,bltS,Bool.false_and]
noncomputable def St23 (O:List AObj) (lo:Nat) (bl:AObj) (tm:List Slot) (s:List UInt8) (n:Int) (c:Cell) (pd:Option Code) (st:LoopState):Sto :=
 ⟨O++[.box [.val (.str s),.val (.int .i64 n),c],bl,.loop (rloop 23 Tryz.f23 0 tm pd st)],lo⟩
theorem c38l (v w:VaD) (S:Sto):CF (.fn 38) [.val (.str [67,111,110,115]),.val (.slice [v.enc,w.enc])] S=some (.ret (.val (.agg [.str [67,111,110,115],.int .i64 0,.slice [v.enc,w.enc]])),S):=by
 have:=c38 [67,111,110,115] [v,w] S
 simpa only [List.map_cons,List.map_nil,VaD.enc_mk] using this
theorem y23 {O:List AObj} {lo:Nat} (hlo:lo≤O.length) {bl:AObj} {k:Int} {v w:VaD} {c:Cell} (hc:c=.val (.slice (w.args.map VaD.enc))∨(c=.own 3 []∧w.args=[])) {s0 s2 s5 s8 s9 s10} :
  CF (.yld (O.length+2)) [.val (.int .i64 k),.val v.enc] (St23 O lo bl [s0,s2,.val (.loc O.length 0),s5,s8,s9,s10] w.con w.num c none .ready) =
   some (.ret (.val (.bool true)),St23 O lo bl [s0,s2,.val (.loc O.length 0),s5,s8,s9,s10] [67,111,110,115] 0 (.val (.slice [v.enc,w.enc])) none .ready):=by
 have hb0:Nat.ble lo O.length=true:=Nat.ble_eq_true_of_le (by omega)
 have h38:=fun S=>c38l v w S
 rw[v.enc_eq,w.enc_eq] at *
 unfold St23
 rcases hc with rfl|⟨rfl,hw⟩
 ·
  apply tY
  ·(simp only[List.append_assoc,List.length_append,List.length_cons,List.length_nil,List.cons_append,List.nil_append,objK,obj0,setK,set0,takeK,List.take_zero,List.take_succ_cons,List.set_cons_zero,List.set_cons_succ,List.getElem?_cons_zero,List.getElem?_cons_succ,Nat.reduceAdd,Nat.zero_add];try rfl)
  ·rfl
  ·kernel_rfl
  ·first|assumption|(apply Nat.ble_eq_true_of_le;(try simp only[List.append_assoc,List.length_append,List.length_cons,List.length_nil,List.cons_append,List.nil_append,objK,obj0,setK,set0,takeK,List.take_zero,List.take_succ_cons,List.set_cons_zero,List.set_cons_succ,List.getElem?_cons_zero,List.getElem?_cons_succ,Nat.reduceAdd,Nat.zero_add]);omega)
  ·(simp only[setParams,List.zip,List.zipWith,List.reverse_cons,List.reverse_nil,go_sem,Nat.reduceAdd,reduceIte];rfl)
  refine tQ ?_
  repeat first|with_reducible constructor|with_reducible refine tW rfl ?_|((with_reducible apply tG);(focus kernel_rfl);(focus (intro _ _;(repeat (apply tOp;(focus (intro _;simp only[List.append_assoc,List.length_append,List.length_cons,List.length_nil,List.cons_append,List.nil_append,objK,obj0,setK,set0,takeK,List.take_zero,List.take_succ_cons,List.set_cons_zero,List.set_cons_succ,List.getElem?_cons_zero,List.getElem?_cons_succ,Nat.reduceAdd,Nat.zero_add,go_sem,Nat.reduceAdd,reduceIte];rfl))));rfl));(focus (simp only[go_sem,Nat.reduceAdd,reduceIte];rfl)))
  apply ty1
  ·(simp only[List.append_assoc,List.length_append,List.length_cons,List.length_nil,List.cons_append,List.nil_append,objK,obj0,setK,set0,takeK,List.take_zero,List.take_succ_cons,List.set_cons_zero,List.set_cons_succ,List.getElem?_cons_zero,List.getElem?_cons_succ,Nat.reduceAdd,Nat.zero_add];try rfl)
  ·(simp only[List.append_assoc,List.length_append,List.length_cons,List.length_nil,List.cons_append,List.nil_append,objK,obj0,setK,set0,takeK,List.take_zero,List.take_succ_cons,List.set_cons_zero,List.set_cons_succ,List.getElem?_cons_zero,List.getElem?_cons_succ,Nat.reduceAdd,Nat.zero_add];try rfl)
  refine tQ ?_
  repeat first|with_reducible constructor|with_reducible refine tW rfl ?_|((with_reducible apply tG);(focus kernel_rfl);(focus (intro _ _;(repeat (apply tOp;(focus (intro _;simp only[List.append_assoc,List.length_append,List.length_cons,List.length_nil,List.cons_append,List.nil_append,objK,obj0,setK,set0,takeK,List.take_zero,List.take_succ_cons,List.set_cons_zero,List.set_cons_succ,List.getElem?_cons_zero,List.getElem?_cons_succ,Nat.reduceAdd,Nat.zero_add,h38,hb0,setElems,clean,flat,List.replicate,List.set_cons_zero,List.set_cons_succ,Nat.add_zero,go_sem,Nat.reduceAdd,reduceIte];rfl))));rfl));(focus (simp only[go_sem,Nat.reduceAdd,reduceIte];rfl)))
  apply ty2n
  ·(simp only[List.append_assoc,List.length_append,List.length_cons,List.length_nil,List.cons_append,List.nil_append,objK,obj0,setK,set0,takeK,List.take_zero,List.take_succ_cons,List.set_cons_zero,List.set_cons_succ,List.getElem?_cons_zero,List.getElem?_cons_succ,Nat.reduceAdd,Nat.zero_add];try rfl)
  ·(simp only[List.append_assoc,List.length_append,List.length_cons,List.length_nil,List.cons_append,List.nil_append,objK,obj0,setK,set0,takeK,List.take_zero,List.take_succ_cons,List.set_cons_zero,List.set_cons_succ,List.getElem?_cons_zero,List.getElem?_cons_succ,Nat.reduceAdd,Nat.zero_add];try rfl)
 ·rw[hw,List.map_nil] at h38
  rw[hw,List.map_nil]
  apply tY
  ·(simp only[List.append_assoc,List.length_append,List.length_cons,List.length_nil,List.cons_append,List.nil_append,objK,obj0,setK,set0,takeK,List.take_zero,List.take_succ_cons,List.set_cons_zero,List.set_cons_succ,List.getElem?_cons_zero,List.getElem?_cons_succ,Nat.reduceAdd,Nat.zero_add];try rfl)
  ·rfl
  ·kernel_rfl
  ·first|assumption|(apply Nat.ble_eq_true_of_le;(try simp only[List.append_assoc,List.length_append,List.length_cons,List.length_nil,List.cons_append,List.nil_append,objK,obj0,setK,set0,takeK,List.take_zero,List.take_succ_cons,List.set_cons_zero,List.set_cons_succ,List.getElem?_cons_zero,List.getElem?_cons_succ,Nat.reduceAdd,Nat.zero_add]);omega)
  ·(simp only[setParams,List.zip,List.zipWith,List.reverse_cons,List.reverse_nil,go_sem,Nat.reduceAdd,reduceIte];rfl)
  refine tQ ?_
  repeat first|with_reducible constructor|with_reducible refine tW rfl ?_|((with_reducible apply tG);(focus kernel_rfl);(focus (intro _ _;(repeat (apply tOp;(focus (intro _;simp only[List.append_assoc,List.length_append,List.length_cons,List.length_nil,List.cons_append,List.nil_append,objK,obj0,setK,set0,takeK,List.take_zero,List.take_succ_cons,List.set_cons_zero,List.set_cons_succ,List.getElem?_cons_zero,List.getElem?_cons_succ,Nat.reduceAdd,Nat.zero_add,go_sem,Nat.reduceAdd,reduceIte];rfl))));rfl));(focus (simp only[go_sem,Nat.reduceAdd,reduceIte];rfl)))
  apply ty1
  ·(simp only[List.append_assoc,List.length_append,List.length_cons,List.length_nil,List.cons_append,List.nil_append,objK,obj0,setK,set0,takeK,List.take_zero,List.take_succ_cons,List.set_cons_zero,List.set_cons_succ,List.getElem?_cons_zero,List.getElem?_cons_succ,Nat.reduceAdd,Nat.zero_add];try rfl)
  ·(simp only[List.append_assoc,List.length_append,List.length_cons,List.length_nil,List.cons_append,List.nil_append,objK,obj0,setK,set0,takeK,List.take_zero,List.take_succ_cons,List.set_cons_zero,List.set_cons_succ,List.getElem?_cons_zero,List.getElem?_cons_succ,Nat.reduceAdd,Nat.zero_add];try rfl)
  refine tQ ?_
  repeat first|with_reducible constructor|with_reducible refine tW rfl ?_|((with_reducible apply tG);(focus kernel_rfl);(focus (intro _ _;(repeat (apply tOp;(focus (intro _;simp only[List.append_assoc,List.length_append,List.length_cons,List.length_nil,List.cons_append,List.nil_append,objK,obj0,setK,set0,takeK,List.take_zero,List.take_succ_cons,List.set_cons_zero,List.set_cons_succ,List.getElem?_cons_zero,List.getElem?_cons_succ,Nat.reduceAdd,Nat.zero_add,h38,hb0,setElems,clean,flat,List.replicate,List.set_cons_zero,List.set_cons_succ,Nat.add_zero,go_sem,Nat.reduceAdd,reduceIte];rfl))));rfl));(focus (simp only[go_sem,Nat.reduceAdd,reduceIte];rfl)))
  apply ty2n
  ·(simp only[List.append_assoc,List.length_append,List.length_cons,List.length_nil,List.cons_append,List.nil_append,objK,obj0,setK,set0,takeK,List.take_zero,List.take_succ_cons,List.set_cons_zero,List.set_cons_succ,List.getElem?_cons_zero,List.getElem?_cons_succ,Nat.reduceAdd,Nat.zero_add];try rfl)
  ·(simp only[List.append_assoc,List.length_append,List.length_cons,List.length_nil,List.cons_append,List.nil_append,objK,obj0,setK,set0,takeK,List.take_zero,List.take_succ_cons,List.set_cons_zero,List.set_cons_succ,List.getElem?_cons_zero,List.getElem?_cons_succ,Nat.reduceAdd,Nat.zero_add];try rfl)
theorem loop108 {j a:Nat} (S:List VaD→Sto) (l:List VaD) (hl:l.length < big) (ha:∀ ys,(S ys).objs[a]?=some (.box [.val (.slice (l.map VaD.enc))]))
  (hy:∀ pre y ys,l=pre++y::ys→CF (.yld j) [.val (.int .i64 (pre.length:Nat)),.val y.enc] (S ys)=some (.ret (.val (.bool true)),S (y::ys))) :
  ∀ (m:Nat) (xs ys:List VaD) (i:Int),xs.length=m→i=(m:Int) - 1→l=xs++ys →
  ∃ s0 s1 s3 s8 s18,LP 108 (loopOf Tryz.f108 0) ⟨[.val (.yld j),.val (.loc a 0),.val (.int .i64 i),.dead,.dead],S ys⟩=some (.exit 0,⟨[s0,s1,s3,s8,s18],S l⟩):=by
 intro m
 induction m with
 |zero =>
  intro xs ys i hx hi hlx
  have:=List.eq_nil_of_length_eq_zero hx
  subst this
  subst hi
  rw[hlx]
  have hlt:decide ((((0:Nat):Int) - 1)≥0)=false:=rfl
  apply Exists.intro;apply Exists.intro;apply Exists.intro;apply Exists.intro;apply Exists.intro
  refine tI rfl ?_
  refine tQ ?_
  repeat first|with_reducible constructor|with_reducible refine tW rfl ?_|((with_reducible apply tG);(focus kernel_rfl);(focus (intro _ _;(repeat (apply tOp;(focus (intro _;simp only[go_sem,Nat.reduceAdd,reduceIte];rfl))));rfl));(focus (simp only[go_sem,Nat.reduceAdd,reduceIte];rfl)))
  with_reducible apply tF
  ·simp only[go_sem,Nat.reduceAdd,reduceIte];rfl
  ·exact hlt
  refine tQ ?_
  repeat first|with_reducible constructor|with_reducible refine tW rfl ?_
  exact tlX
  all_goals exact .dead
 |succ m ih =>
  intro xs ys i hx hi hlx
  obtain ⟨xs',y,rfl⟩:∃ xs' y,xs=xs'++[y]:=⟨xs.dropLast,xs.getLast (fun e=>by subst e;simp at hx),(List.dropLast_concat_getLast _).symm⟩
  have hx':xs'.length=m:=by simpa using hx
  have hi':i=((m:Nat):Int):=by rw[hi];omega
  subst hi'
  have hlx':l=xs'++y::ys:=by rw[hlx];simp
  have hge:decide (((m:Nat):Int)≥0)=true:=by simp
  have h0:=zI m
  have hget:(l.map VaD.enc)[((m:Nat):Int).toNat]?=some y.enc:=by
   rw[hlx',←hx'];exact getI VaD.enc xs' ys y
  have hm:m < big:=by rw[hlx'] at hl;simp at hl;omega
  have hw:IntKind.i64.wrap (((m:Nat):Int) - 1)=((m:Nat):Int) - 1:=by rw[wrapOk (by omega) (by simp only[big] at hm;omega)]
  have hc:=hy xs' y ys hlx'
  have hob:=ha ys
  rw[hx'] at hc
  rw[y.enc_eq] at hget hc
  obtain ⟨s0,s1,s3,s8,s18,ih⟩:=ih xs' (y::ys) (((m:Nat):Int) - 1) hx' rfl hlx'
  refine ⟨s0,s1,s3,s8,s18,?_⟩
  refine tI rfl ?_
  refine tQ ?_
  repeat first|with_reducible constructor|with_reducible refine tW rfl ?_|((with_reducible apply tG);(focus kernel_rfl);(focus (intro _ _;(repeat (apply tOp;(focus (intro _;simp only[go_sem,Nat.reduceAdd,reduceIte];rfl))));rfl));(focus (simp only[go_sem,Nat.reduceAdd,reduceIte];rfl)))
  with_reducible apply tT
  ·simp only[go_sem,Nat.reduceAdd,reduceIte];rfl
  ·exact hge
  refine tQ ?_
  repeat first|with_reducible constructor|with_reducible refine tW rfl ?_|((with_reducible apply tG);(focus kernel_rfl);(focus (intro _ _;(repeat (apply tOp;(focus (intro _;simp only[hget,h0,hc,hob,go_sem,Nat.reduceAdd,reduceIte];rfl))));rfl));(focus (simp only[go_sem,Nat.reduceAdd,reduceIte];rfl)))
  with_reducible apply tF
  ·simp only[go_sem,Nat.reduceAdd,reduceIte];rfl
  ·rfl
  refine tQ ?_
  repeat first|with_reducible constructor|with_reducible refine tW rfl ?_|((with_reducible apply tG);(focus kernel_rfl);(focus (intro _ _;(repeat (apply tOp;(focus (intro _;simp only[hw,go_sem,Nat.reduceAdd,reduceIte];rfl))));rfl));(focus (simp only[go_sem,Nat.reduceAdd,reduceIte];rfl)))
  exact ih
theorem c108 {j a:Nat} (S:List VaD→Sto) (l:List VaD) (hl:l.length < big) (ha:∀ ys,(S ys).objs[a]?=some (.box [.val (.slice (l.map VaD.enc))]))
  (hy:∀ pre y ys,l=pre++y::ys→CF (.yld j) [.val (.int .i64 (pre.length:Nat)),.val y.enc] (S ys)=some (.ret (.val (.bool true)),S (y::ys))) :
  CF (.fn 108) [.val (.yld j),.val (.loc a 0)] (S [])=some (.ret (.tup []),⟨(S l).objs.take (S []).objs.length,(S l).lo⟩):=by
 have hob:=ha []
 have hw:IntKind.i64.wrap (((l.length:Nat):Int) - 1)=((l.length:Nat):Int) - 1:=by rw[wrapOk (by omega) (by simp only[big] at hl;omega)]
 obtain ⟨s0,s1,s3,s8,s18,hlp⟩:=loop108 S l hl ha hy l.length l [] _ rfl rfl (by simp)
 apply tA
 ·rfl
 ·rfl
 ·exact Tryz.func108
 ·rfl
 ·rfl
 ·simp only[go_sem,Nat.reduceAdd,reduceIte];rfl
 refine tQ ?_
 repeat first|with_reducible constructor|with_reducible refine tW rfl ?_|((with_reducible apply tG);(focus kernel_rfl);(focus (intro _ _;(repeat (apply tOp;(focus (intro _;simp only[hob,hw,List.length_map,go_sem,Nat.reduceAdd,reduceIte];rfl))));rfl));(focus (simp only[go_sem,Nat.reduceAdd,reduceIte];rfl)))
 apply tL
 ·exact hlp
 refine tQ ?_
 repeat first|with_reducible constructor|with_reducible refine tW rfl ?_|((with_reducible apply tG);(focus kernel_rfl);(focus (intro _ _;(repeat (apply tOp;(focus (intro _;simp only[go_sem,Nat.reduceAdd,reduceIte];rfl))));rfl));(focus (simp only[go_sem,Nat.reduceAdd,reduceIte];rfl)))
 exact rfl
end Go.Proofs.YtdkkaldimefljaaGreatDoor
end
section
namespace Go.Proofs.YtdkkaldimefljaaGreatDoor
open Go.AM
attribute [local go_sem] opsK oneK guardK stepK callK argsA capsA elemsA mvK mv asV asSl AM.asInt AM.asBool asPlace asBox asObj asMap cellsOfPlace writePlace asCells boxCells optInt sliceCut drawnPlace opS RS.look RS.put RS.putO alook tlook commit persist constS constT absV absC dstOk noRefTo guardB abin abinT isNilSlice isNilIface nilTest Nat.beq Nat.ble Nat.blt cond_true cond_false Bool.and_true Bool.true_and Bool.and_self Bool.not_true Bool.not_false Bool.or_true Bool.or_false Bool.false_or Bool.true_or Bool.and_false Bool.false_and List.all_nil List.all_cons List.contains List.elem Option.bind_some Option.map_some Option.getD_some cAgg cInt cBool cStr cSlice cFunc cNilf cNilp cNilm cLoc cMap cYld List.take_succ_cons List.take_zero List.drop_zero List.drop_succ_cons Nat.zero_add Cell.get Cell.lok AM.lok lokF noRefS partOf List.map_nil List.map_cons List.length_cons List.length_nil List.getElem?_cons_zero List.getElem?_cons_succ List.nil_append List.cons_append List.append_nil List.getElem?_toArray List.toList_toArray Option.bind_none Option.map_none objs1 objs2 objs3 objs32 oset1 setCells List.take_append_drop List.drop_nil List.take_nil an23 sz0 ag0 by0 Tryz.underlying0 sz3 ag3 zo3 zc3 by3 Tryz.underlying3 sz9 ag9 zo9 zc9 by9 Tryz.underlying9 sz25 ag25 se25 zo25 zc25 by25 Tryz.underlying25 sz27 ag27 zo27 zc27 by27 Tryz.underlying27 pl27 sz87 ag87 zo87 zc87 by87 Tryz.underlying87
set_option maxRecDepth 100000
set_option maxHeartbeats 8000000
theorem ble01 (n:Nat):Nat.ble n (n+1)=true:=Nat.ble_eq_true_of_le (by omega)
theorem c38n (S:Sto):CF (.fn 38) [.val (.str [78,105,108]),.val (.slice [])] S=some (.ret (.val (.agg [.str [78,105,108],.int .i64 0,.slice []])),S):=by
 have:=c38 [78,105,108] [] S
 simpa only [List.map_nil,VaD.enc_mk] using this
theorem round23 {O:List AObj} {lo:Nat} (hlo:lo≤O.length) {bl:AObj} {s0 s2 s5 s8 s9 s10} (pre:List VaD) (y:VaD) (ys:List VaD) :
  CF (.yld (O.length+2)) [.val (.int .i64 (pre.length:Nat)),.val y.enc] (St23 O lo bl [s0,s2,.val (.loc O.length 0),s5,s8,s9,s10] (listD ys).con (listD ys).num (.val (.slice ((listD ys).args.map VaD.enc))) none .ready) =
   some (.ret (.val (.bool true)),St23 O lo bl [s0,s2,.val (.loc O.length 0),s5,s8,s9,s10] (listD (y::ys)).con (listD (y::ys)).num (.val (.slice ((listD (y::ys)).args.map VaD.enc))) none .ready):=by
 have:=y23 (k:=(pre.length:Nat)) (v:=y) (w:=listD ys) (bl:=bl) hlo (.inl rfl) (s0:=s0) (s2:=s2) (s5:=s5) (s8:=s8) (s9:=s9) (s10:=s10)
 simpa only [listD,VaD.args,VaD.con,VaD.num,List.map_cons,List.map_nil,consS] using this
theorem c23 (l:List VaD) (hl:l.length < big) (sto:Sto) (hlo:sto.lo≤sto.objs.length):CF (.fn 23) [.val (.slice (l.map VaD.enc))] sto=some (.ret (.val (listD l).enc),sto):=by
 have hb0:Nat.ble sto.lo sto.objs.length=true:=Nat.ble_eq_true_of_le (by omega)
 have h39:=fun s=>c39 l s
 have hc:=fun s0 s2 s5 s8 s9 s10=>c108 (j:=sto.objs.length+2) (a:=sto.objs.length+1)
  (fun ys=>St23 sto.objs sto.lo (.box [.val (.slice (l.map VaD.enc))]) [s0,s2,.val (.loc sto.objs.length 0),s5,s8,s9,s10] (listD ys).con (listD ys).num (.val (.slice ((listD ys).args.map VaD.enc))) none .ready) l hl
  (fun ys=>by simp only[St23,List.append_assoc,List.length_append,List.length_cons,List.length_nil,List.cons_append,List.nil_append,objK,obj0,setK,set0,takeK,List.take_zero,List.take_succ_cons,List.set_cons_zero,List.set_cons_succ,List.getElem?_cons_zero,List.getElem?_cons_succ,Nat.reduceAdd,Nat.zero_add]) (fun pre y ys _=>round23 hlo (s0:=s0) (s2:=s2) (s5:=s5) (s8:=s8) (s9:=s9) (s10:=s10) pre y ys)
 simp only[St23,List.append_assoc,List.length_append,List.length_cons,List.length_nil,List.cons_append,List.nil_append,objK,obj0,setK,set0,takeK,List.take_zero,List.take_succ_cons,List.set_cons_zero,List.set_cons_succ,List.getElem?_cons_zero,List.getElem?_cons_succ,Nat.reduceAdd,Nat.zero_add] at hc
 have e0:(listD []).con=[78,105,108]∧(listD []).num=0∧(listD []).args.map VaD.enc=[]:=⟨rfl,rfl,rfl⟩
 rw[e0.1,e0.2.1,e0.2.2] at hc
 rw[VaD.enc_eq (listD l)]
 apply tA
 ·rfl
 ·rfl
 ·exact Tryz.func23
 ·rfl
 ·rfl
 ·simp only[go_sem,Nat.reduceAdd,reduceIte];rfl
 refine tQ ?_
 repeat first|with_reducible constructor|with_reducible refine tW rfl ?_|((with_reducible apply tG);(focus kernel_rfl);(focus (intro _ _;(repeat (apply tOp;(focus (intro _;simp only[List.append_assoc,List.length_append,List.length_cons,List.length_nil,List.cons_append,List.nil_append,objK,obj0,setK,set0,takeK,List.take_zero,List.take_succ_cons,List.set_cons_zero,List.set_cons_succ,List.getElem?_cons_zero,List.getElem?_cons_succ,Nat.reduceAdd,Nat.zero_add,c38n,h39,hb0,ble01,Nat.add_assoc,Nat.add_zero,go_sem,Nat.reduceAdd,reduceIte];rfl))));rfl));(focus (simp only[go_sem,Nat.reduceAdd,reduceIte];rfl)))
 with_reducible apply tGn
 ·rfl
 ·simp only[List.append_assoc,List.length_append,List.length_cons,List.length_nil,List.cons_append,List.nil_append,objK,obj0,setK,set0,takeK,List.take_zero,List.take_succ_cons,List.set_cons_zero,List.set_cons_succ,List.getElem?_cons_zero,List.getElem?_cons_succ,Nat.reduceAdd,Nat.zero_add]
  exact hc _ _ _ _ _ _
 ·simp only[List.append_assoc,List.length_append,List.length_cons,List.length_nil,List.cons_append,List.nil_append,objK,obj0,setK,set0,takeK,List.take_zero,List.take_succ_cons,List.set_cons_zero,List.set_cons_succ,List.getElem?_cons_zero,List.getElem?_cons_succ,Nat.reduceAdd,Nat.zero_add]
  rfl
 ·simp only[List.append_assoc,List.length_append,List.length_cons,List.length_nil,List.cons_append,List.nil_append,objK,obj0,setK,set0,takeK,List.take_zero,List.take_succ_cons,List.set_cons_zero,List.set_cons_succ,List.getElem?_cons_zero,List.getElem?_cons_succ,Nat.reduceAdd,Nat.zero_add]
  rfl
 refine tQ ?_
 repeat first|with_reducible constructor|with_reducible refine tW rfl ?_|((with_reducible apply tG);(focus kernel_rfl);(focus (intro _ _;(repeat (apply tOp;(focus (intro _;simp only[List.append_assoc,List.length_append,List.length_cons,List.length_nil,List.cons_append,List.nil_append,objK,obj0,setK,set0,takeK,List.take_zero,List.take_succ_cons,List.set_cons_zero,List.set_cons_succ,List.getElem?_cons_zero,List.getElem?_cons_succ,Nat.reduceAdd,Nat.zero_add,hb0,Nat.add_zero,go_sem,Nat.reduceAdd,reduceIte];rfl))));rfl));(focus (simp only[go_sem,Nat.reduceAdd,reduceIte];rfl)))
 exact finE [_,_] rfl
end Go.Proofs.YtdkkaldimefljaaGreatDoor
end
section
namespace Go.Proofs.YtdkkaldimefljaaGreatDoor
open Go.AM
attribute [local go_sem] opsK oneK guardK stepK callK argsA capsA elemsA mvK mv asV asSl AM.asInt AM.asBool asPlace asBox asObj asMap cellsOfPlace writePlace asCells boxCells optInt sliceCut drawnPlace opS RS.look RS.put RS.putO alook tlook commit persist constS constT absV absC dstOk noRefTo guardB abin abinT isNilSlice isNilIface nilTest Nat.beq Nat.ble Nat.blt cond_true cond_false Bool.and_true Bool.true_and Bool.and_self Bool.not_true Bool.not_false Bool.or_true Bool.or_false Bool.false_or Bool.true_or Bool.and_false Bool.false_and List.all_nil List.all_cons List.contains List.elem Option.bind_some Option.map_some Option.getD_some cAgg cInt cBool cStr cSlice cFunc cNilf cNilp cNilm cLoc cMap cYld List.take_succ_cons List.take_zero List.drop_zero List.drop_succ_cons Nat.zero_add Cell.get Cell.lok AM.lok lokF noRefS partOf List.map_nil List.map_cons List.length_cons List.length_nil List.getElem?_cons_zero List.getElem?_cons_succ List.nil_append List.cons_append List.append_nil List.getElem?_toArray List.toList_toArray Option.bind_none Option.map_none objs1 objs2 objs3 objs32 oset1 setCells List.take_append_drop List.drop_nil List.take_nil an5 an8 sz0 ag0 by0 Tryz.underlying0 sz3 ag3 zo3 zc3 by3 Tryz.underlying3 sz4 ag4 zo4 zc4 by4 Tryz.underlying4 sz9 ag9 zo9 zc9 by9 Tryz.underlying9 sz25 ag25 se25 zo25 zc25 by25 Tryz.underlying25 sz27 ag27 zo27 zc27 by27 Tryz.underlying27 pl27 sz38 ag38 by38 Tryz.underlying38
set_option maxRecDepth 100000
set_option maxHeartbeats 16000000
theorem listD_size:∀ l:List VaD,(listD l).size≤VaD.sizes l+6 * l.length+4
 |[]=>by simp [listD,VaD.size,VaD.sizes,nilS]
 |v::l=>by
  have:=listD_size l
  simp only[listD,VaD.size,VaD.sizes,consS,List.length_cons,List.length_nil];omega
theorem c8 (l:List VaD) (sto:Sto) (hs:VaD.sizes l+6 * l.length+4 < big) (hlo:sto.lo≤sto.objs.length):CF (.fn 8) [.val (.slice (l.map VaD.enc))] sto=some (.ret (.val (listD l).enc),sto):=by
 have hsz:=listD_size l
 have h23:=c23 l (by omega) sto hlo
 have h22:=c22 (listD l) sto (by omega)
 rw[VaD.enc_eq (listD l)] at *
 apply tA
 ·rfl
 ·rfl
 ·exact Tryz.func8
 ·rfl
 ·rfl
 ·simp only[go_sem,Nat.reduceAdd,reduceIte];rfl
 refine tQ ?_
 repeat first|with_reducible constructor|with_reducible refine tW rfl ?_|((with_reducible apply tG);(focus kernel_rfl);(focus (intro _ _;(repeat (apply tOp;(focus (intro _;simp only[h23,h22,go_sem,Nat.reduceAdd,reduceIte];rfl))));rfl));(focus (simp only[go_sem,Nat.reduceAdd,reduceIte];rfl)))
 exact fin0 rfl
theorem c6 (sto:Sto):CF (.fn 6) [] sto=some (.ret (.val (.bool true)),sto):=fnP (r:=.ret (.val (.bool true))) rfl rfl
theorem items_list:∀ (l out:List VaD) (m:Nat),(listD l).size < m→out.length+l.length≤2000→itemsD m out (listD l)=some (out++l)
 |[],out,m,hm,h=>by
  cases m with
  |zero=>omega
  |succ m=>simp [itemsD,listD,VaD.con,VaD.num,VaD.args,nilS,consS]
 |v::l,out,m,hm,h=>by
  cases m with
  |zero=>omega
  |succ m =>
   have h1:(listD l).size < m:=by simp only[listD,VaD.size,VaD.sizes] at hm;omega
   have h2:(out.length==2000)=false:=by simp only[List.length_cons] at h;simp;omega
   have:=items_list l (out++[v]) m h1 (by simp only[List.length_append,List.length_cons,List.length_nil] at h ⊢;omega)
   simp only[List.append_assoc,List.singleton_append] at this
   rw[←this]
   simp [itemsD,listD,VaD.con,VaD.num,VaD.args,consS,h2]
theorem sizes_append:∀ a b:List VaD,VaD.sizes (a++b)=VaD.sizes a+VaD.sizes b
 |[],b=>by simp [VaD.sizes]
 |x::a,b=>by simp only[List.cons_append,VaD.sizes,sizes_append a b];omega
theorem items_size:∀ (m:Nat) (out o:List VaD) (v:VaD),itemsD m out v=some o→VaD.sizes o≤VaD.sizes out+v.size
 |0,out,o,v,h=>by cases h
 |m+1,out,o,v,h=>by
  unfold itemsD at h
  split at h
  ·rename_i a t _ _ hat
   split at h
   ·cases h
   ·have:=items_size m _ _ _ h
    have h1:v.size=v.con.length+1+VaD.sizes v.args:=by cases v;rfl
    rw[hat] at h1
    simp only[sizes_append,VaD.sizes] at this h1
    omega
  ·split at h
   ·cases h;omega
   ·cases h
theorem c5 (l:List VaD) (v:VaD) (sto:Sto) (hl:VaD.sizes l+6 * l.length+4 < big) (hv:v.size < big) (hlo:sto.lo≤sto.objs.length):CF (.fn 5) [.val (.slice (l.map VaD.enc)),.val v.enc] sto=some (.ret (.val (.bool true)),sto):=by
 have hsz:=listD_size l
 have h6:=c6 sto
 have h8:=c8 l sto hl hlo
 have h14:=c14 v sto hv
 have h15:=c15 v sto
 have h14b:=c14 (listD l) sto (by omega)
 have h16:=c16 l sto (by omega) hlo
 have h17:=c17 l sto (by have:=VaD.sizes_len l;omega)
 have h12:=c12 (listD l) sto (by omega) hlo
 have h16x:∀ r,itemsD (v.size+1) [] v=r→∃ x b,itemsR r=[.slice x,.bool b]∧CF (.fn 16) [.val (.slice x),.val (.slice x)] sto=some (.ret (.val (.bool true)),sto):=by
  intro r hr
  cases r with
  |none=>exact ⟨[],false,rfl,c16 [] sto (by simp [VaD.sizes,big]) hlo⟩
  |some o=>exact ⟨o.map VaD.enc,true,rfl,c16 o sto (by have:=items_size _ _ _ _ hr;simp only[VaD.sizes] at this;omega) hlo⟩
 obtain ⟨x,b,hx,h16b⟩:=h16x _ rfl
 rw[hx] at h14 h15
 rw[VaD.enc_eq (listD l)] at *
 rw[v.enc_eq] at *
 have hbb:(b==b)=true:=by simp
 by_cases hn:l.length≤2000
 ·have hle:decide (((l.length:Nat):Int)≤2000)=true:=by simp;omega
  rw[items_list l [] _ (Nat.lt_succ_self _) (by simpa using hn)] at h14b
  simp only[List.nil_append,itemsR] at h14b
  apply tA
  ·rfl
  ·rfl
  ·exact Tryz.func5
  ·rfl
  ·rfl
  ·simp only[go_sem,Nat.reduceAdd,reduceIte];rfl
  refine tQ ?_
  repeat first|with_reducible constructor|with_reducible refine tW rfl ?_|((with_reducible apply tG);(focus kernel_rfl);(focus (intro _ _;(repeat (apply tOp;(focus (intro _;simp only[h6,h8,h14,h15,h14b,h16,hle,List.length_map,go_sem,Nat.reduceAdd,reduceIte];rfl))));rfl));(focus (simp only[go_sem,Nat.reduceAdd,reduceIte];rfl)))
  with_reducible apply tF
  ·simp only[go_sem,Nat.reduceAdd,reduceIte];rfl
  ·rfl
  refine tQ ?_
  repeat first|with_reducible constructor|with_reducible refine tW rfl ?_|((with_reducible apply tG);(focus kernel_rfl);(focus (intro _ _;(repeat (apply tOp;(focus (intro _;simp only[h17,h12,h16b,hbb,go_sem,Nat.reduceAdd,reduceIte];rfl))));rfl));(focus (simp only[go_sem,Nat.reduceAdd,reduceIte];rfl)))
  exact fin0 rfl
 ·have hle:decide (((l.length:Nat):Int)≤2000)=false:=by simp;omega
  obtain ⟨x',b',hx'⟩:∃ x' b',itemsR (itemsD ((listD l).size+1) [] (listD l))=[.slice x',.bool b']:=by
   cases itemsD ((listD l).size+1) [] (listD l)
   ·exact ⟨_,_,rfl⟩
   ·exact ⟨_,_,rfl⟩
  rw[hx'] at h14b
  apply tA
  ·rfl
  ·rfl
  ·exact Tryz.func5
  ·rfl
  ·rfl
  ·simp only[go_sem,Nat.reduceAdd,reduceIte];rfl
  refine tQ ?_
  repeat first|with_reducible constructor|with_reducible refine tW rfl ?_|((with_reducible apply tG);(focus kernel_rfl);(focus (intro _ _;(repeat (apply tOp;(focus (intro _;simp only[h6,h8,h14,h15,h14b,hle,List.length_map,go_sem,Nat.reduceAdd,reduceIte];rfl))));rfl));(focus (simp only[go_sem,Nat.reduceAdd,reduceIte];rfl)))
  with_reducible apply tF
  ·simp only[go_sem,Nat.reduceAdd,reduceIte];rfl
  ·rfl
  refine tQ ?_
  repeat first|with_reducible constructor|with_reducible refine tW rfl ?_|((with_reducible apply tG);(focus kernel_rfl);(focus (intro _ _;(repeat (apply tOp;(focus (intro _;simp only[h17,h12,h16b,hbb,go_sem,Nat.reduceAdd,reduceIte];rfl))));rfl));(focus (simp only[go_sem,Nat.reduceAdd,reduceIte];rfl)))
  exact fin0 rfl
end Go.Proofs.YtdkkaldimefljaaGreatDoor
end
section
namespace Go.AM
open Go.RowKit
variable {P : Program} {ans : FuncId → Ann} {B0 : Nat}
def PureOK (P : Program) (f : FuncId) (args : List AVal) (res : AVal) : Prop :=
  (∃ F, P.funcs[f]? = some F ∧ F.body.isSome = true) ∧ ∀ (w : World) (Ψ : HT) (vs : Array Value), WSat Ψ w → args.length = vs.size → (∀ (i : Nat) a, args[i]? = some a → VRel Ψ [] a (vs.getD i undef)) →
    ∀ c cs, ∃ w' Ψ' v, Fr w Ψ (fun _ => none) w' Ψ' (fun _ => none) ∧ WSat Ψ' w' ∧ VRel Ψ' [] res v ∧ Steps P (lone (Frame.enter P f vs .normal) (c :: cs) w) (lone (c.finish v) cs w')
theorem PureOK.prim {f : FuncId} {args : List AVal} {res : AVal} (h : PureOK P f args res) (hl : ∀ a ∈ args, lok 0 a = true) : (∃ F, P.funcs[f]? = some F ∧ F.body.isSome = true) ∧
    ∀ sto w Ψ ρ ow vs, CallPre ans B0 w Ψ ρ ow (args.map .val) vs sto → ∀ c cs, CallPost P ans B0 w Ψ ρ ow sto c cs (lone (Frame.enter P f vs .normal) (c :: cs) w) (.ret (.val res)) sto := by
  refine ⟨h.1, fun sto w Ψ ρ ow vs hp c cs => ?_⟩
  obtain ⟨w', Ψ', v, hf, hw, hv, hs⟩ := h.2 w Ψ vs hp.wsat (by simpa using hp.size) (fun i a ha => by
    have h1 := hp.args i (.val a) (by simp [ha])
    have h2 := hl a (List.mem_of_getElem? ha)
    cases h1 with
    | val _ _ h1 => simpa using h1.lok h2) c cs
  have hfr : Fr w Ψ ow w' Ψ' ow := ⟨hf.le, hf.size, fun b hb _ => hf.keep b hb rfl, fun b hb => .inl hb, hf.os, hf.tape, hf.output⟩
  refine ⟨w', Ψ', ρ, ow, hfr, pre_refl _, hw, hp.objs.mono hf.le fun i _ b s hb => ?_, fun b hb => Nat.lt_of_lt_of_le (hp.lt b hb) hf.size, ⟨rfl, Nat.le_refl _, fun _ _ => rfl⟩, rfl, v, .val _ _ (hv.mono (HT.le_refl _) (pre_nil _)), hs⟩
  have hb' := hp.lt b (by simp [hb])
  have := hf.keep b hb' rfl
  exact ⟨hb, this.1, fun o ho => by rw [this.2 o]; exact ho⟩
theorem callPre0 {w : World} {Ψ : HT} {args : List Slot} {vs : Array Value} (hw : WSat Ψ w) (hl : args.length = vs.size) (hf : ∀ s ∈ args, s.free = true) (ha : ∀ (i : Nat) s, args[i]? = some s → SRel w w.heap.size Ψ [] (fun _ => none) #[] i s (vs.getD i undef)) : CallPre ans w.heap.size w Ψ [] (fun _ => none) args vs ⟨[], 0⟩ :=
  ⟨hw, Nat.le_refl _, fun b h => absurd rfl h, hl, hf, ha, ⟨rfl, fun i o h => by simp at h⟩, Nat.le_refl _⟩
theorem callPost0 {w : World} {Ψ : HT} {c : Frame} {cs : List Frame} {m : Machine} {res : AVal} (h : CallPost P ans w.heap.size w Ψ [] (fun _ => none) ⟨[], 0⟩ c cs m (.ret (.val res)) ⟨[], 0⟩) :
    ∃ w' Ψ' v, Fr w Ψ (fun _ => none) w' Ψ' (fun _ => none) ∧ WSat Ψ' w' ∧ VRel Ψ' [] res v ∧ Steps P m (lone (c.finish v) cs w') := by
  obtain ⟨w', Ψ', ρ', ow', hf, _, hw, ho, _, _, _, v, hs, hst⟩ := h
  have hρ : ρ' = [] := List.length_eq_zero_iff.1 ho.1
  subst hρ
  refine ⟨w', Ψ', v, ⟨hf.le, hf.size, hf.keep, fun b hb => absurd rfl hb, hf.os, hf.tape, hf.output⟩, hw, ?_, hst⟩
  cases hs with
  | val _ _ h => exact h
theorem PureOK.ofRun {ans1 : FuncId → Ann} {pr1 : Prims} (E : ∀ B0, Env P ans1 B0 pr1) {f : FuncId} {args : List AVal} {res : AVal} (e : cfW P ans1 pr1 (.fn f) (args.map .val) ⟨[], 0⟩ = some (.ret (.val res), ⟨[], 0⟩)) : PureOK P f args res := by
  obtain ⟨n, hn⟩ := cfW_some.1 e
  have key := fun B0 => (run_ok (E B0) n).1.fn f _ _ _ _ hn
  obtain ⟨F, h1, h2, _⟩ := (key 0).1
  refine ⟨⟨F, h1, h2⟩, fun w Ψ vs hw hl ha c cs => ?_⟩
  refine callPost0 ((key w.heap.size).2 w Ψ [] (fun _ => none) vs (callPre0 hw (by simpa using hl) (fun s hs => ?_) (fun i s hs => ?_)) c cs)
  · obtain ⟨a, _, rfl⟩ := List.mem_map.1 hs; rfl
  · rw [List.getElem?_map, Option.map_eq_some_iff] at hs
    obtain ⟨a, ha', rfl⟩ := hs
    exact .val _ _ (ha i a ha')
theorem wsat_below {w w' : World} {Ψ : HT} (hw : WSat Ψ w) (hb : Below w.heap.size w w') : WSat Ψ w' := ⟨Nat.le_trans hw.size8 hb.size, fun b o c e => by
  obtain ⟨h1, v, h2, h3⟩ := hw.sat b o c e
  exact ⟨h1, v, (cell_congr (hb.block b (hw.lt e)) o).trans h2, h3⟩⟩
theorem fr_below {w w' : World} {Ψ : HT} (hb : Below w.heap.size w w') : Fr w Ψ (fun _ => none) w' Ψ (fun _ => none) :=
  ⟨HT.le_refl _, hb.size, fun b h _ => ⟨hb.block b h, fun _ => rfl⟩, fun b h => absurd rfl h, hb.os, hb.tape, hb.output⟩
theorem steps_of_calls {f : FuncId} {vs : Array Value} {w : World} {R : Value → World → Prop} (h : Calls P f vs w fun e w' => ∃ v, e = .returned v ∧ R v w') (c : Frame) (cs : List Frame) :
    ∃ w' v, R v w' ∧ Steps P (lone (Frame.enter P f vs .normal) (c :: cs) w) (lone (c.finish v) cs w') := by
  obtain ⟨e, w', fr, ⟨v, rfl, hr⟩, hc, _, hl⟩ := h (c :: cs)
  exact ⟨w', v, hr, Steps.trans hc (.one (step_leave_returned hl))⟩
theorem PureOK.ofCalls {f : FuncId} {args : List AVal} {res : AVal} (hF : ∃ F, P.funcs[f]? = some F ∧ F.body.isSome = true)
    (h : ∀ (w : World) (Ψ : HT) (vs : Array Value), WSat Ψ w → args.length = vs.size → (∀ (i : Nat) a, args[i]? = some a → VRel Ψ [] a (vs.getD i undef)) →
      Calls P f vs w fun e w' => ∃ v, e = .returned v ∧ VRel Ψ [] res v ∧ Below w.heap.size w w') : PureOK P f args res := by
  refine ⟨hF, fun w Ψ vs hw hl ha c cs => ?_⟩
  obtain ⟨w', v, ⟨hv, hb⟩, hs⟩ := steps_of_calls (h w Ψ vs hw hl ha) c cs
  exact ⟨w', Ψ, v, fr_below hb, wsat_below hw hb, hv, hs⟩
end Go.AM
end
section
namespace Go.Proofs.YtdkkaldimefljaaGreatDoor
open Go.AM Go.RowKit
set_option maxRecDepth 100000
theorem names (f : Nat) (F : Func) (h : Tryz.prog.funcs[f]? = some F) (_ : F.body.isSome = true) : F.name ≠ "runtime.NumGoroutine" := by
  have hall : Tryz.prog.funcs.all (fun F => !(F.name == "runtime.NumGoroutine")) = true := by kernel_rfl
  have := Array.all_eq_true_iff_forall_mem.1 hall F (Array.mem_of_getElem? h)
  intro e
  rw [e] at this
  simp at this
theorem mkEnv {B0 : Nat} {pr : Prims} (h : ∀ f args res, pr f args = some (some res) → (∃ F, Tryz.prog.funcs[f]? = some F ∧ F.body.isSome = true) ∧ ∀ sto w Ψ ρ ow vs, CallPre ans B0 w Ψ ρ ow args vs sto → ∀ c cs, CallPost Tryz.prog ans B0 w Ψ ρ ow sto c cs (lone (Frame.enter Tryz.prog f vs .normal) (c :: cs) w) res sto) : Env Tryz.prog ans B0 pr :=
  ⟨h, names, fun _ hc => drawnOK (by kernel_rfl) hc⟩
theorem p6 : PureOK Tryz.prog 6 [] (.bool true) := by
  refine ⟨⟨_, Tryz.func6, by kernel_rfl⟩, fun w Ψ vs hw hl ha c cs => ?_⟩
  obtain rfl : vs = #[] := Array.eq_empty_of_size_eq_zero hl.symm
  obtain ⟨w', h1, h2, h3, h4, h5, h6⟩ := Go.CM.sane26_ok w hw.size8 c cs
  have hb : Below w.heap.size w w' := ⟨h4, h5, h6, h2, h3⟩
  exact ⟨w', Ψ, .bool true, fr_below hb, wsat_below hw hb, .bool _, h1⟩
theorem env (B0 : Nat) : Env Tryz.prog ans B0 prims := mkEnv fun f args res h => by
  cases hf : Nat.beq f 6 with
  | false => simp [prims, hf] at h
  | true =>
    obtain rfl := Nat.eq_of_beq_eq_true hf
    cases args with
    | nil =>
      have : res = .ret (.val (.bool true)) := by simpa [prims] using h.symm
      subst this
      exact p6.prim (fun a ha => by simp at ha)
    | cons a l => simp [prims] at h
end Go.Proofs.YtdkkaldimefljaaGreatDoor
end
