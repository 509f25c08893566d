/- Part E10 of the proof of one law of the program. -/
import Derived.Test.YtkmnkiekmlcfdaaGreatDoorE09
set_option linter.all false
namespace Go.Proofs.YtkmnkiekmlcfdaaGreatDoor
open Go.AM
set_option maxRecDepth 100000
set_option maxHeartbeats 1000000
variable {kd:List UInt8→Int}
theorem c59 (p:PaD) (n:Int) (sto:Sto):CF kd (.fn 59) [.val p.enc,.val (.int .i64 n)] sto=some (.ret (.val (.func 104 [.loc sto.objs.length 0,.loc (sto.objs.length+1) 0])),⟨sto.objs++[.box [.val (.int .i64 p.kind),.val (.str p.name),.val (.slice (p.args.map PaD.enc))],.box [.val (.int .i64 n)]],sto.lo⟩):=by
 rw[p.enc_eq];apply tA;rfl;rfl;exact Tryz.func59;rfl;rfl;simp only[go_sem];rfl;refine tQ ?_;repeat first|with_reducible constructor|(with_reducible apply tG);kernel_rfl;intro _ _;(repeat apply tOp;intro _;simp only[FL,FO,Nat.reduceAdd,go_sem,Nat.reduceAdd];rfl);rfl;simp only[go_sem];rfl
 refine finV (t:=4) rfl rfl rfl ?_;simp only[lok,List.all_cons,lokF,bltS,Bool.false_and]
theorem bleR (n:Nat):Nat.ble n n=true:=Nat.ble_eq_true_of_le (Nat.le_refl _)
theorem ble12 (n:Nat):Nat.ble (n+1) (n+2)=true:=Nat.ble_eq_true_of_le (by omega)
theorem ble01 (n:Nat):Nat.ble n (n+1)=true:=Nat.ble_eq_true_of_le (by omega)
theorem c104 {i a b:Nat} {P:Sto→Prop} {S S':Sto} {r:Bool} (hlo:S.lo≤S.objs.length) (hP:∀ T,P T→InvS i S.objs.length (S.objs.length+2) T) {p:PaD} (hp:p.size < big) {n:Nat} (hn:n+1 < big) (hi:i < S.objs.length)
  (ha:S.objs[a]?=some (.box [.val (.int .i64 p.kind),.val (.str p.name),.val (.slice (p.args.map PaD.enc))])) (hb:S.objs[b]?=some (.box [.val (.int .i64 (n:Nat))]))
  (h0:P ⟨S.objs++[.box [.val (.yld i)],.box [.val (.func 105 [.loc S.objs.length 0,.loc (S.objs.length+1) 0])]],S.lo⟩)
  (hY:Yields (CF kd) i P ((slotsD n p []).map slotE) ⟨S.objs++[.box [.val (.yld i)],.box [.val (.func 105 [.loc S.objs.length 0,.loc (S.objs.length+1) 0])]],S.lo⟩ S' r) :
  CF kd (.fn 104) [.val (.yld i),.val (.loc a 0),.val (.loc b 0)] S=some (.ret (.tup []),⟨S'.objs.take S.objs.length,S'.lo⟩):=by
 have ha':a < S.objs.length:=(List.getElem?_eq_some_iff.1 ha).1;have hb':b < S.objs.length:=(List.getElem?_eq_some_iff.1 hb).1;have h5:=c105 (kd:=kd) hP n p [] _ _ _ (by omega) hp (by simp;omega) h0 hY;rw[p.enc_eq,List.map_nil] at h5;have ha2:∀ e,(S.objs++e)[a]?=some (.box [.val (.int .i64 p.kind),.val (.str p.name),.val (.slice (p.args.map PaD.enc))]):=fun e=>by rw[List.getElem?_append_left ha'];exact ha
 have hb2:∀ e,(S.objs++e)[b]?=some (.box [.val (.int .i64 (n:Nat))]):=fun e=>by rw[List.getElem?_append_left hb'];exact hb
 have hbi:Nat.ble (i+1) S.objs.length=true:=Nat.ble_eq_true_of_le hi;have hbl:Nat.ble S.lo (S.objs.length+1)=true:=Nat.ble_eq_true_of_le (by omega);apply tA;rfl;rfl;exact Tryz.func104;rfl;rfl;simp only[go_sem];rfl;refine tQ ?_;repeat first|with_reducible constructor|(with_reducible apply tG);kernel_rfl;intro _ _;(repeat apply tOp;intro _;simp only[FL,FO,Nat.reduceAdd,hbi,hbl,ha2,hb2,h5,ann105,bleR,ble12,ble01,Nat.add_assoc,go_sem,Nat.reduceAdd];rfl);rfl;simp only[go_sem];rfl
 exact rfl
def validD (nm:List UInt8→Bool) (ds:List DaD) (t:TyD) (p:PaD):Int :=
 if deepD 100 p then 6 else if !formedD nm ds t p then 50 else if !diffL [] ((slotsD 100 p []).map Prod.fst) then 51 else 0
theorem y55 {s:List UInt8×List Nat} {X:List (List UInt8)} {O:List AObj} {lo:Nat} (hlo:lo≤O.length) {e0:Cell} {bp bm by1 bf:AObj} {s0 s1 s2 s4 s5 s8 s10 s15 s18 s19 s23} :
  CF kd (.yld (O.length+5)) [.val (slotE s)] ⟨O++[.box [e0],.map (seenE X),.box [.val (.amap (O.length+1))],bp,bm,.loop (rloop 55 Tryz.f55 0 [s0,s1,s2,s4,s5,.val (.loc O.length 0),.val (.loc (O.length+2) 0),s8,s10,s15,s18,s19,s23] none .ready),by1,bf],lo⟩ =
   bif X.contains s.1 then some (.ret (.val (.bool false)),⟨O++[.box [.val (.int .i64 51)],.map (seenE X),.box [.val (.amap (O.length+1))],bp,bm,.loop (rloop 55 Tryz.f55 0 [s0,s1,s2,s4,s5,.val (.loc O.length 0),.val (.loc (O.length+2) 0),s8,s10,s15,s18,s19,s23] (some .ret) .done),by1,bf],lo⟩)
   else some (.ret (.val (.bool true)),⟨O++[.box [e0],.map (seenE (addS X s.1)),.box [.val (.amap (O.length+1))],bp,bm,.loop (rloop 55 Tryz.f55 0 [s0,s1,s2,s4,s5,.val (.loc O.length 0),.val (.loc (O.length+2) 0),s8,s10,s15,s18,s19,s23] none .ready),by1,bf],lo⟩):=by
 have hb0:Nat.ble lo O.length=true:=Nat.ble_eq_true_of_le (by omega);have hb1:Nat.ble lo (O.length+1)=true:=Nat.ble_eq_true_of_le (by omega);have hu:=upd_seen s.1 X;have hf:=find_seen s.1 X;simp only[slotE];cases hc:X.contains s.1 with
 |true =>
  rw[hc] at hf;simp only[cond_true] at hf ⊢;apply tY
  ·(simp only[FL,FO,Nat.reduceAdd];try rfl)
  ·rfl
  ·kernel_rfl
  ·first|assumption|(apply Nat.ble_eq_true_of_le;(try simp only[FL,FO,Nat.reduceAdd]);omega)
  ·(simp only[setParams,List.zip,List.zipWith,List.reverse_cons,List.reverse_nil,go_sem];rfl)
  refine tQ ?_;repeat first|with_reducible constructor|(with_reducible apply tG);kernel_rfl;intro _ _;(repeat apply tOp;intro _;simp only[FL,FO,Nat.reduceAdd,go_sem,Nat.reduceAdd];rfl);rfl;simp only[go_sem];rfl
  apply ty1
  ·(simp only[FL,FO,Nat.reduceAdd];try rfl)
  ·(simp only[FL,FO,Nat.reduceAdd];try rfl)
  refine tQ ?_;repeat first|with_reducible constructor|(with_reducible apply tG);kernel_rfl;intro _ _;(repeat apply tOp;intro _;simp only[FL,FO,asMap,keyT,hf,Nat.add_zero,hb0,hb1,go_sem,Nat.reduceAdd];rfl);rfl;simp only[go_sem];rfl|(with_reducible apply t1);rfl;trivial
  apply ty2r
  ·(simp only[FL,FO,Nat.reduceAdd];try rfl)
  ·(simp only[FL,FO,Nat.reduceAdd];try rfl)
 |false =>
  rw[hc] at hf;simp only[cond_false] at hf ⊢;apply tY
  ·(simp only[FL,FO,Nat.reduceAdd];try rfl)
  ·rfl
  ·kernel_rfl
  ·first|assumption|(apply Nat.ble_eq_true_of_le;(try simp only[FL,FO,Nat.reduceAdd]);omega)
  ·(simp only[setParams,List.zip,List.zipWith,List.reverse_cons,List.reverse_nil,go_sem];rfl)
  refine tQ ?_;repeat first|with_reducible constructor|(with_reducible apply tG);kernel_rfl;intro _ _;(repeat apply tOp;intro _;simp only[FL,FO,Nat.reduceAdd,go_sem,Nat.reduceAdd];rfl);rfl;simp only[go_sem];rfl
  apply ty1
  ·(simp only[FL,FO,Nat.reduceAdd];try rfl)
  ·(simp only[FL,FO,Nat.reduceAdd];try rfl)
  refine tQ ?_;repeat first|with_reducible constructor|(with_reducible apply tG);kernel_rfl;intro _ _;(repeat apply tOp;intro _;simp only[FL,FO,asMap,keyT,hf,Option.getD_none,Nat.add_zero,clean,flat,hb0,hb1,hu,go_sem,Nat.reduceAdd];rfl);rfl;simp only[go_sem];rfl|(with_reducible apply t0);rfl;trivial
  apply ty2n
  ·(simp only[FL,FO,Nat.reduceAdd];try rfl)
  ·(simp only[FL,FO,Nat.reduceAdd];try rfl)
noncomputable def St55 (O:List AObj) (lo:Nat) (bp bm by1 bf:AObj) (tm:List Slot) (e:Cell) (X:List (List UInt8)) (pd:Option Code) (st:LoopState):Sto :=
 ⟨O++[.box [e],.map (seenE X),.box [.val (.amap (O.length+1))],bp,bm,.loop (rloop 55 Tryz.f55 0 tm pd st),by1,bf],lo⟩
def lastX (X:List (List UInt8)):List (List UInt8×List Nat)→List (List UInt8)
 |[]=>X
 |s::l=>bif X.contains s.1 then X else lastX (addS X s.1) l
theorem yields55 {O:List AObj} {lo:Nat} (hlo:lo≤O.length) {e0:Cell} {bp bm by1 bf:AObj} {s0 s1 s2 s4 s5 s8 s10 s15 s18 s19 s23}:∀ (l:List (List UInt8×List Nat)) (X:List (List UInt8)),
  Yields (CF kd) (O.length+5) (fun T=>∃ e X pd st,T=St55 O lo bp bm by1 bf [s0,s1,s2,s4,s5,.val (.loc O.length 0),.val (.loc (O.length+2) 0),s8,s10,s15,s18,s19,s23] e X pd st) (l.map slotE) (St55 O lo bp bm by1 bf [s0,s1,s2,s4,s5,.val (.loc O.length 0),.val (.loc (O.length+2) 0),s8,s10,s15,s18,s19,s23] e0 X none .ready)
   (bif diffL X (l.map Prod.fst) then St55 O lo bp bm by1 bf [s0,s1,s2,s4,s5,.val (.loc O.length 0),.val (.loc (O.length+2) 0),s8,s10,s15,s18,s19,s23] e0 (lastX X l) none .ready else St55 O lo bp bm by1 bf [s0,s1,s2,s4,s5,.val (.loc O.length 0),.val (.loc (O.length+2) 0),s8,s10,s15,s18,s19,s23] (.val (.int .i64 51)) (lastX X l) (some .ret) .done) (diffL X (l.map Prod.fst))
 |[],X=>.nil
 |s::l,X=>by
  have hy:=y55 (kd:=kd) (s:=s) (X:=X) (O:=O) (lo:=lo) hlo (e0:=e0) (bp:=bp) (bm:=bm) (by1:=by1) (bf:=bf) (s0:=s0) (s1:=s1) (s2:=s2) (s4:=s4) (s5:=s5) (s8:=s8) (s10:=s10) (s15:=s15) (s18:=s18) (s19:=s19) (s23:=s23);simp only[List.map_cons,diffL,lastX];cases hc:X.contains s.1 with
  |true =>
   rw[hc] at hy;simp only[cond_true] at hy;simp only[Bool.not_true,Bool.false_and,cond_false,cond_true];exact .stop hy ⟨_,_,_,_,rfl⟩
  |false =>
   rw[hc] at hy;simp only[cond_false] at hy;have ih:=yields55 hlo (e0:=e0) (bp:=bp) (bm:=bm) (by1:=by1) (bf:=bf) (s0:=s0) (s1:=s1) (s2:=s2) (s4:=s4) (s5:=s5) (s8:=s8) (s10:=s10) (s15:=s15) (s18:=s18) (s19:=s19) (s23:=s23) l (addS X s.1);simp only[Bool.not_false,Bool.true_and,cond_false];exact .more hy ⟨_,_,_,_,rfl⟩ ih
theorem finC1 {P:Program} {an:Ann} {fn:Func} {n:Nat} {tm:List Slot} {sto:Sto} {a:AVal} {rs:List ResultVar} (h1:an.ownRes=false) (h2:fn.results.toList=rs) (h3:∀ k:List AVal→Option (ARes×Sto),resK P an tm rs sto k=k [a]) (h4:slotLok n (.val a)=true) :
  finish P an fn n ⟨tm,sto⟩=some (.ret (.val a),⟨sto.objs.take n,sto.lo⟩):=by
 simp only[finish,h1,h2,h3,trim,h4,cond_true]
theorem c55 {ds:List DaD} (h:DsOk ds) (t:TyD) (p:PaD) (hp:p.size < big) (sto:Sto) (hlo:sto.lo≤sto.objs.length) :
  CF kd (.fn 55) [.val (.slice (ds.map DaD.enc)),.val t.enc,.val p.enc] sto=some (.ret (.val (.int .i64 (validD (isK kd 2) ds t p))),sto):=by
 have hb0:Nat.ble sto.lo sto.objs.length=true:=Nat.ble_eq_true_of_le (by omega);have hb2:Nat.ble sto.lo (sto.objs.length+2)=true:=Nat.ble_eq_true_of_le (by omega);have hbb:Nat.ble (sto.objs.length+2) (sto.objs.length+3)=true:=Nat.ble_eq_true_of_le (by omega);have h83:=fun s=>c83 (kd:=kd) 100 (by simp [big]) p s hp
 have e100:((100:Nat):Int)=100:=rfl;rw[e100] at h83;have h101:=c101 (kd:=kd) h p hp t ⟨sto.objs++[.box [.val (.int .i64 0)]],sto.lo⟩ (by simp;omega);have h59:=fun s=>c59 (kd:=kd) p 100 s
 simp only[validD];cases g1:deepD 100 p with
 |true =>
  rw[g1] at h83;rw[p.enc_eq] at h83 ⊢;rw[t.enc_eq];simp only[if_true];apply tA;rfl;rfl;exact Tryz.func55;rfl;rfl;simp only[go_sem];rfl;refine tQ ?_;repeat first|with_reducible constructor|(with_reducible apply tG);kernel_rfl;intro _ _;(repeat apply tOp;intro _;simp only[FL,FO,h83,hb0,Nat.add_zero,go_sem,Nat.reduceAdd];rfl);rfl;simp only[go_sem];rfl|(with_reducible apply t1);rfl;trivial
  refine finE _ (finC1 rfl rfl ?_ rfl);show ∀ k:List AVal→Option (ARes×Sto),resK _ _ _ [.cell 6 31] _ k=_;intro k;simp only[FL,FO,Nat.reduceAdd,Nat.add_zero,resK,go_sem,Nat.reduceAdd];rfl
 |false =>
  rw[g1] at h83;simp only[Bool.false_eq_true,if_false];cases g2:formedD (isK kd 2) ds t p with
  |false =>
   rw[g2] at h101;rw[p.enc_eq] at h83 h101 ⊢;rw[t.enc_eq] at h101 ⊢;simp only[Bool.not_false,if_true];apply tA;rfl;rfl;exact Tryz.func55;rfl;rfl;simp only[go_sem];rfl;refine tQ ?_;repeat first|with_reducible constructor|(with_reducible apply tG);kernel_rfl;intro _ _;(repeat apply tOp;intro _;simp only[FL,FO,h83,h101,hb0,Nat.add_zero,go_sem,Nat.reduceAdd];rfl);rfl;simp only[go_sem];rfl|(with_reducible apply t1);rfl;trivial|(with_reducible apply t0);rfl;trivial
   refine finE _ (finC1 rfl rfl ?_ rfl);show ∀ k:List AVal→Option (ARes×Sto),resK _ _ _ [.cell 6 31] _ k=_;intro k;simp only[FL,FO,Nat.reduceAdd,Nat.add_zero,resK,go_sem,Nat.reduceAdd];rfl
  |true =>
   rw[g2] at h101;simp only[Bool.not_true,Bool.false_eq_true,if_false];have hY:=fun s0 s1 s2 s4 s5 s8 s10 s15 s18 s19 s23=>yields55 (kd:=kd) (O:=sto.objs) (lo:=sto.lo) hlo (e0:=.val (.int .i64 0)) (bp:=.box [.val (.int .i64 p.kind),.val (.str p.name),.val (.slice (p.args.map PaD.enc))]) (bm:=.box [.val (.int .i64 100)]) (by1:=.box [.val (.yld (sto.objs.length+5))]) (bf:=.box [.val (.func 105 [.loc (sto.objs.length+6) 0,.loc (sto.objs.length+7) 0])]) (s0:=s0) (s1:=s1) (s2:=s2) (s4:=s4) (s5:=s5) (s8:=s8) (s10:=s10) (s15:=s15) (s18:=s18) (s19:=s19) (s23:=s23) (slotsD 100 p []) []
   have hc:=fun s0 s1 s2 s4 s5 s8 s10 s15 s18 s19 s23=>c104 (kd:=kd) (i:=sto.objs.length+5) (a:=sto.objs.length+3) (b:=sto.objs.length+4) (P:=fun T=>∃ e X pd st,T=St55 sto.objs sto.lo (.box [.val (.int .i64 p.kind),.val (.str p.name),.val (.slice (p.args.map PaD.enc))]) (.box [.val (.int .i64 100)]) (.box [.val (.yld (sto.objs.length+5))]) (.box [.val (.func 105 [.loc (sto.objs.length+6) 0,.loc (sto.objs.length+7) 0])]) [s0,s1,s2,s4,s5,.val (.loc sto.objs.length 0),.val (.loc (sto.objs.length+2) 0),s8,s10,s15,s18,s19,s23] e X pd st)
    (S:=⟨sto.objs++[.box [.val (.int .i64 0)],.map [],.box [.val (.amap (sto.objs.length+1))],.box [.val (.int .i64 p.kind),.val (.str p.name),.val (.slice (p.args.map PaD.enc))],.box [.val (.int .i64 100)],.loop (rloop 55 Tryz.f55 0 [s0,s1,s2,s4,s5,.val (.loc sto.objs.length 0),.val (.loc (sto.objs.length+2) 0),s8,s10,s15,s18,s19,s23] none .ready)],sto.lo⟩) (p:=p) (n:=100)
    (by simp;omega) (by
     rintro T ⟨e,X,pd,st,rfl⟩
     refine ⟨?_,?_,?_⟩ <;> simp only[St55,FL,FO,Nat.reduceAdd,Nat.add_assoc]) hp (by simp [big]) (by simp)
    (by simp only[FL,FO,Nat.reduceAdd]) (by simp only[FL,FO,Nat.reduceAdd];rfl) ⟨.val (.int .i64 0),[],none,.ready,by simp only[St55,FL,FO,Nat.reduceAdd,seen_nil]⟩
    (by simpa only [St55,FL,FO,Nat.reduceAdd,seen_nil] using hY s0 s1 s2 s4 s5 s8 s10 s15 s18 s19 s23)
   rw[p.enc_eq] at h83 h101 h59 ⊢;rw[t.enc_eq] at h101 ⊢;cases g3:diffL [] ((slotsD 100 p []).map Prod.fst) with
   |true =>
    simp only[g3,cond_true,St55,FL,FO,Nat.reduceAdd] at hc;simp only[Bool.not_true,Bool.false_eq_true,if_false];apply tA;rfl;rfl;exact Tryz.func55;rfl;rfl;simp only[go_sem];rfl;refine tQ ?_;repeat first|with_reducible constructor|(with_reducible apply tG);kernel_rfl;intro _ _;(repeat apply tOp;intro _;simp only[FL,FO,h83,h101,h59,hb0,hb2,hbb,ble01,Nat.add_assoc,Nat.add_zero,go_sem,Nat.reduceAdd];rfl);rfl;simp only[go_sem];rfl|(with_reducible apply t0);rfl;trivial
    with_reducible apply tGn
    ·rfl
    ·simp only[FL,FO,Nat.reduceAdd]
     exact hc _ _ _ _ _ _ _ _ _ _ _
    ·simp only[FL,FO,Nat.reduceAdd]
     rfl
    ·simp only[FL,FO,Nat.reduceAdd]
     rfl
    refine tQ ?_;repeat first|with_reducible constructor|(with_reducible apply tG);kernel_rfl;intro _ _;(repeat apply tOp;intro _;simp only[FL,FO,Nat.reduceAdd,hb0,Nat.add_zero,go_sem,Nat.reduceAdd];rfl);rfl;simp only[go_sem];rfl
    refine finE _ (finC1 rfl rfl ?_ rfl);show ∀ k:List AVal→Option (ARes×Sto),resK _ _ _ [.cell 6 31] _ k=_;intro k;simp only[FL,FO,Nat.reduceAdd,Nat.add_zero,resK,go_sem,Nat.reduceAdd];rfl
   |false =>
    simp only[g3,cond_false,St55,FL,FO,Nat.reduceAdd] at hc;simp only[Bool.not_false,if_true];apply tA;rfl;rfl;exact Tryz.func55;rfl;rfl;simp only[go_sem];rfl;refine tQ ?_;repeat first|with_reducible constructor|(with_reducible apply tG);kernel_rfl;intro _ _;(repeat apply tOp;intro _;simp only[FL,FO,h83,h101,h59,hb0,hb2,hbb,ble01,Nat.add_assoc,Nat.add_zero,go_sem,Nat.reduceAdd];rfl);rfl;simp only[go_sem];rfl|(with_reducible apply t0);rfl;trivial
    with_reducible apply tGr
    ·rfl
    ·simp only[FL,FO,Nat.reduceAdd]
     exact hc _ _ _ _ _ _ _ _ _ _ _
    ·simp only[FL,FO,Nat.reduceAdd]
     rfl
    ·simp only[FL,FO,Nat.reduceAdd]
     rfl
    refine tQ ?_;repeat first|with_reducible constructor|(with_reducible apply tG);kernel_rfl;intro _ _;(repeat apply tOp;intro _;simp only[FL,FO,Nat.reduceAdd,hb0,Nat.add_zero,go_sem,Nat.reduceAdd];rfl);rfl;simp only[go_sem];rfl
    refine finE _ (finC1 rfl rfl ?_ rfl);show ∀ k:List AVal→Option (ARes×Sto),resK _ _ _ [.cell 6 31] _ k=_;intro k;simp only[FL,FO,Nat.reduceAdd,Nat.add_zero,resK,go_sem,Nat.reduceAdd];rfl
end Go.Proofs.YtkmnkiekmlcfdaaGreatDoor
