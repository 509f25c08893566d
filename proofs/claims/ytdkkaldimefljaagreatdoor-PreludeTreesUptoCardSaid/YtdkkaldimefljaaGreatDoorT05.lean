import Derived.Test.YtdkkaldimefljaaGreatDoorT04
set_option linter.all false
section
namespace Go.Proofs.YtdkkaldimefljaaGreatDoor
open Go.AM
variable [Aps]
set_option maxRecDepth 100000
set_option maxHeartbeats 8000000
theorem aJV (s:List UInt8) (S:Sto):CF (.fn 38) [.val (.str s),.val (.slice [])] S=some (.ret (.val (.agg [.str s,.int .i64 0,.slice []])),S):=by
 have:=c38 s [] S
 simpa only [List.map_nil,VaD.enc_mk] using this
def bY (l:List Int):Tr:=l.foldl (fun t n=>t.put n) .leaf
theorem c87 (l:List Int) (hl:l.length+1 < big) (sto:Sto) (hlo:sto.lo≤sto.objs.length):CF (.fn 87) [.val (.agg []),.val (.slice [(aW (l.map b9)).enc])] sto=some (.ret (.val (bY l).val.enc),sto):=by
 have h61:=c61 (l.map b9) (by simpa using hl) sto hlo;have e1:(l.map b9).map (fun v=>AVal.int .i64 v.num)=l.map iH:=by simp [iH,b9,VaD.num,Function.comp_def]
 rw[e1] at h61;obtain ⟨s0,s1,s7,s12,s13,s14,s15,hlp⟩:=aHv (.nilptr) sto l [] .leaf (by simp only[List.nil_append];omega);have h38:=aJV [76,101,97,102];simp only[List.nil_append,List.length_nil] at hlp;have e2:aS Tr.leaf.val=[.val (.str [76,101,97,102]),.val (.int .i64 0),.val (.slice [])]:=rfl;rw[e2] at hlp
 change LP 87 _ _=some (_,⟨_::_::_::.box (aS (bY l).val)::_,_⟩) at hlp
 simp only[aS] at hlp;rw[dX] at h61 ⊢;rw[VaD.enc_eq (bY l).val];apply tA;rfl;rfl;exact Tryz.func87;rfl;rfl;simp only[go_sem];rfl;refine tQ ?_;repeat first|with_reducible constructor|with_reducible refine tW rfl ?_|((with_reducible apply tG);(·kernel_rfl);(·(intro _ _;(repeat (apply tOp;(·(intro _;simp only[h38,h61,List.length_map,go_sem];rfl))));rfl));(·(simp only[go_sem];rfl)))
 apply tL;exact hlp;refine tQ ?_;repeat first|with_reducible constructor|with_reducible refine tW rfl ?_|((with_reducible apply tG);(·kernel_rfl);(·(intro _ _;(repeat (apply tOp;(·(intro _;simp only[go_sem];rfl))));rfl));(·(simp only[go_sem];rfl)))
 exact dC rfl
def bJ:List VaD→VaD
 |[]=>.mk [69,110,100] 0 []
 |v::l=>.mk [73,116,101,109] 0 [v,bJ l]
theorem da (l:List VaD):(bJ l).enc=.agg [.str (bJ l).con,.int .i64 (bJ l).num,.slice ((bJ l).args.map VaD.enc)]:=VaD.enc_eq _
theorem aGI (sto:Sto) (ys:List VaD):∀ (pre:List VaD),pre.length+ys.length+1 < big →
  ∃ s0 s1 s6 s12 s24,LP 88 (dQ Tryz.f88 0) ⟨[.dead,.dead,.box [.val (.str []),.val (.int .i64 0),.own 3 []],.own 3 (pre.map VaD.enc),.box (aS (bJ ys)),.dead,.dead],sto⟩ =
   some (.exit 0,⟨[s0,s1,.box [.val (.str []),.val (.int .i64 0),.own 3 []],.own 3 ((pre++ys).map VaD.enc),s6,s12,s24],sto⟩):=by
 induction ys with
 |nil =>
  intro pre h3;simp only[List.append_nil,aS,bJ,VaD.con,VaD.num,VaD.args,List.map_nil];(iterate 5 apply Exists.intro);refine tI rfl ?_;refine tQ ?_;repeat first|with_reducible constructor|with_reducible refine tW rfl ?_|((with_reducible apply tG);(·kernel_rfl);(·(intro _ _;(repeat (apply tOp;(·(intro _;simp only[go_sem];rfl))));rfl));(·(simp only[go_sem];rfl)))
  (with_reducible apply tF);simp only[go_sem];rfl;rfl;refine tQ ?_;repeat first|with_reducible constructor|with_reducible refine tW rfl ?_
  exact tlX;all_goals exact .dead
 |cons y ys ih =>
  intro pre h3;have hr:Nat.ble (pre.length+1) room=true:=by apply Nat.ble_eq_true_of_le;simp only[room];simp only[List.length_cons,big] at h3;omega
  have emap:(pre++[y]).map VaD.enc=pre.map VaD.enc++[y.enc]:=by simp
  obtain ⟨s0,s1,s6,s12,s24,ih⟩:=ih (pre++[y]) (by simp only[List.length_append,List.length_cons,List.length_nil] at h3 ⊢;omega);rw[emap,y.enc_eq] at ih;simp only[List.append_assoc,List.singleton_append] at ih
  have hcell:aS (bJ (y::ys))=[.val (.str [73,116,101,109]),.val (.int .i64 0),.val (.slice [.agg [.str y.con,.int .i64 y.num,.slice (y.args.map VaD.enc)],.agg [.str (bJ ys).con,.int .i64 (bJ ys).num,.slice ((bJ ys).args.map VaD.enc)]])]:=by
   rw[←VaD.enc_eq y,←VaD.enc_eq (bJ ys)];simp only[aS,bJ,VaD.con,VaD.num,VaD.args,List.map_cons,List.map_nil]
  rw[hcell];simp only[aS] at ih;refine ⟨s0,s1,s6,s12,s24,?_⟩;refine tI rfl ?_;refine tQ ?_;repeat first|with_reducible constructor|with_reducible refine tW rfl ?_|((with_reducible apply tG);(·kernel_rfl);(·(intro _ _;(repeat (apply tOp;(·(intro _;simp only[go_sem];rfl))));rfl));(·(simp only[go_sem];rfl)))
  (with_reducible apply tT);simp only[go_sem];rfl;rfl;refine tQ ?_;repeat first|with_reducible constructor|with_reducible refine tW rfl ?_|((with_reducible apply tG);(·kernel_rfl);(·(intro _ _;(repeat (apply tOp;(·(intro _;simp only[hr,List.length_map,bI,clean,flat,List.replicate,List.set_cons_zero,List.set_cons_succ,go_sem];rfl))));rfl));(·(simp only[go_sem];rfl)))
  exact ih
theorem c88 (l:List VaD) (hl:l.length+1 < big) (sto:Sto) (hlo:sto.lo≤sto.objs.length):CF (.fn 88) [.val (.agg []),.val (.slice [(bJ l).enc])] sto=some (.ret (.val (aW l).enc),sto):=by
 obtain ⟨s0,s1,s6,s12,s24,hlp⟩:=aGI sto l [] (by simp only[List.length_nil];omega);have h23:=c23 l (by omega) sto hlo;simp only[List.nil_append,List.map_nil,aS] at hlp;rw[da];rw[dX] at h23 ⊢;apply tA;rfl;rfl;exact Tryz.func88;rfl;rfl;simp only[go_sem];rfl;refine tQ ?_;repeat first|with_reducible constructor|with_reducible refine tW rfl ?_|((with_reducible apply tG);(·kernel_rfl);(·(intro _ _;(repeat (apply tOp;(·(intro _;simp only[go_sem];rfl))));rfl));(·(simp only[go_sem];rfl)))
 apply tL;exact hlp;refine tQ ?_;repeat first|with_reducible constructor|with_reducible refine tW rfl ?_|((with_reducible apply tG);(·kernel_rfl);(·(intro _ _;(repeat (apply tOp;(·(intro _;simp only[h23,go_sem];rfl))));rfl));(·(simp only[go_sem];rfl)))
 exact dC rfl
noncomputable def mz (O:List AObj) (lo:Nat) (bl:AObj) (tm:List Slot) (s:List UInt8) (n:Int) (c:Cell) (pd:Option Code) (st:LoopState):Sto :=
 ⟨O++[.box [.val (.str s),.val (.int .i64 n),c],bl,.loop (lB 89 Tryz.f89 0 tm pd st)],lo⟩
theorem aMp (v w:VaD) (S:Sto):CF (.fn 38) [.val (.str [73,116,101,109]),.val (.slice [v.enc,w.enc])] S=some (.ret (.val (.agg [.str [73,116,101,109],.int .i64 0,.slice [v.enc,w.enc]])),S):=by
 have:=c38 [73,116,101,109] [v,w] S
 simpa only [List.map_cons,List.map_nil,VaD.enc_mk] using this
theorem y89 {O:List AObj} {lo:Nat} (hlo:lo≤O.length) {bl:AObj} {k:Int} {v w:VaD} {c:Cell} (hc:c=.val (.slice (w.args.map VaD.enc))∨(c=.own 3 []∧w.args=[])) {s0 s1 s4 s7 s13 s14 s15} :
  CF (.yld (O.length+2)) [.val (.int .i64 k),.val v.enc] (mz O lo bl [s0,s1,s4,.val (.loc O.length 0),s7,s13,s14,s15] w.con w.num c none .ready) =
   some (.ret (.val (.bool true)),mz O lo bl [s0,s1,s4,.val (.loc O.length 0),s7,s13,s14,s15] [73,116,101,109] 0 (.val (.slice [v.enc,w.enc])) none .ready):=by
 have hb0:Nat.ble lo O.length=true:=Nat.ble_eq_true_of_le (by omega);have h38:=fun S=>aMp v w S
 rw[v.enc_eq,w.enc_eq] at *;unfold mz;rcases hc with rfl|⟨rfl,hw⟩
 ·
  apply tY
  ·(simp only[FL,FO];try rfl)
  ·rfl
  ·kernel_rfl
  ·first|assumption|(apply Nat.ble_eq_true_of_le;(try simp only[FL,FO]);omega)
  ·(simp only[cG,List.zip,List.zipWith,List.reverse_cons,List.reverse_nil,go_sem];rfl)
  refine tQ ?_;repeat first|with_reducible constructor|with_reducible refine tW rfl ?_|((with_reducible apply tG);(·kernel_rfl);(·(intro _ _;(repeat (apply tOp;(·(intro _;simp only[FL,FO,go_sem];rfl))));rfl));(·(simp only[go_sem];rfl)))
  apply ty1
  ·(simp only[FL,FO];try rfl)
  ·(simp only[FL,FO];try rfl)
  refine tQ ?_;repeat first|with_reducible constructor|with_reducible refine tW rfl ?_|((with_reducible apply tG);(·kernel_rfl);(·(intro _ _;(repeat (apply tOp;(·(intro _;simp only[FL,FO,h38,hb0,bI,clean,flat,List.replicate,List.set_cons_zero,List.set_cons_succ,Nat.add_zero,go_sem];rfl))));rfl));(·(simp only[go_sem];rfl)))
  apply xh
  ·(simp only[FL,FO];try rfl)
  ·(simp only[FL,FO];try rfl)
 ·rw[hw,List.map_nil] at h38
  rw[hw,List.map_nil];apply tY
  ·(simp only[FL,FO];try rfl)
  ·rfl
  ·kernel_rfl
  ·first|assumption|(apply Nat.ble_eq_true_of_le;(try simp only[FL,FO]);omega)
  ·(simp only[cG,List.zip,List.zipWith,List.reverse_cons,List.reverse_nil,go_sem];rfl)
  refine tQ ?_;repeat first|with_reducible constructor|with_reducible refine tW rfl ?_|((with_reducible apply tG);(·kernel_rfl);(·(intro _ _;(repeat (apply tOp;(·(intro _;simp only[FL,FO,go_sem];rfl))));rfl));(·(simp only[go_sem];rfl)))
  apply ty1
  ·(simp only[FL,FO];try rfl)
  ·(simp only[FL,FO];try rfl)
  refine tQ ?_;repeat first|with_reducible constructor|with_reducible refine tW rfl ?_|((with_reducible apply tG);(·kernel_rfl);(·(intro _ _;(repeat (apply tOp;(·(intro _;simp only[FL,FO,h38,hb0,bI,clean,flat,List.replicate,List.set_cons_zero,List.set_cons_succ,Nat.add_zero,go_sem];rfl))));rfl));(·(simp only[go_sem];rfl)))
  apply xh
  ·(simp only[FL,FO];try rfl)
  ·(simp only[FL,FO];try rfl)
theorem aEV {O:List AObj} {lo:Nat} (hlo:lo≤O.length) {bl:AObj} {s0 s1 s4 s7 s13 s14 s15} (pre:List VaD) (y:VaD) (ys:List VaD) :
  CF (.yld (O.length+2)) [.val (.int .i64 (pre.length:Nat)),.val y.enc] (mz O lo bl [s0,s1,s4,.val (.loc O.length 0),s7,s13,s14,s15] (bJ ys).con (bJ ys).num (.val (.slice ((bJ ys).args.map VaD.enc))) none .ready) =
   some (.ret (.val (.bool true)),mz O lo bl [s0,s1,s4,.val (.loc O.length 0),s7,s13,s14,s15] (bJ (y::ys)).con (bJ (y::ys)).num (.val (.slice ((bJ (y::ys)).args.map VaD.enc))) none .ready):=by
 have:=y89 (k:=(pre.length:Nat)) (v:=y) (w:=bJ ys) (bl:=bl) hlo (.inl rfl) (s0:=s0) (s1:=s1) (s4:=s4) (s7:=s7) (s13:=s13) (s14:=s14) (s15:=s15)
 simpa only [bJ,VaD.args,VaD.con,VaD.num,List.map_cons,List.map_nil,nilS] using this
theorem c89 (l:List VaD) (hl:l.length+1 < big) (sto:Sto) (hlo:sto.lo≤sto.objs.length):CF (.fn 89) [.val (.agg []),.val (.slice [(aW l).enc])] sto=some (.ret (.val (bJ l).enc),sto):=by
 have hb0:Nat.ble sto.lo sto.objs.length=true:=Nat.ble_eq_true_of_le (by omega);have h39:=fun s=>c39 l s
 have h57:=fun s h=>c57 l hl s h
 have h57a:=h57 ⟨sto.objs++[.box [.val (.str [69,110,100]),.val (.int .i64 0),.val (.slice [])]],sto.lo⟩ (by simp;omega);have h38:=aJV [69,110,100]
 have hc:=fun s0 s1 s4 s7 s13 s14 s15=>aIc (j:=sto.objs.length+2) (a:=sto.objs.length+1)
  (fun ys=>mz sto.objs sto.lo (.box [.val (.slice (l.map VaD.enc))]) [s0,s1,s4,.val (.loc sto.objs.length 0),s7,s13,s14,s15] (bJ ys).con (bJ ys).num (.val (.slice ((bJ ys).args.map VaD.enc))) none .ready) l (by omega)
  (fun ys=>by simp only[mz,FL,FO]) (fun pre y ys _=>aEV hlo (s0:=s0) (s1:=s1) (s4:=s4) (s7:=s7) (s13:=s13) (s14:=s14) (s15:=s15) pre y ys)
 simp only[mz,FL,FO] at hc;have e0:(bJ []).con=[69,110,100]∧(bJ []).num=0∧(bJ []).args.map VaD.enc=[]:=⟨rfl,rfl,rfl⟩
 rw[e0.1,e0.2.1,e0.2.2] at hc;rw[VaD.enc_eq (bJ l)];rw[dX l] at h57a ⊢;apply tA;rfl;rfl;exact Tryz.func89;rfl;rfl;simp only[go_sem];rfl;refine tQ ?_;repeat first|with_reducible constructor|with_reducible refine tW rfl ?_|((with_reducible apply tG);(·kernel_rfl);(·(intro _ _;(repeat (apply tOp;(·(intro _;simp only[FL,FO,h38,h57a,h39,hb0,aB9,Nat.add_assoc,Nat.add_zero,go_sem];rfl))));rfl));(·(simp only[go_sem];rfl)))
 with_reducible apply tGn
 ·rfl
 ·simp only[FL,FO]
  exact hc _ _ _ _ _ _ _
 ·simp only[FL,FO]
  rfl
 ·simp only[FL,FO]
  rfl
 refine tQ ?_;repeat first|with_reducible constructor|with_reducible refine tW rfl ?_|((with_reducible apply tG);(·kernel_rfl);(·(intro _ _;(repeat (apply tOp;(·(intro _;simp only[FL,FO,hb0,Nat.add_zero,go_sem];rfl))));rfl));(·(simp only[go_sem];rfl)))
 exact nW [_,_] rfl
end Go.Proofs.YtdkkaldimefljaaGreatDoor
end
section
namespace Go.Proofs.YtdkkaldimefljaaGreatDoor
open Go.AM
variable [Aps]
set_option maxRecDepth 100000
set_option maxHeartbeats 8000000
theorem c7 (l:List Int) (hl:l.length < big) (sto:Sto):CF (.fn 7) [.val (.slice (l.map iH))] sto=some (.ret (.val (.slice ((l.take 30).map iH))),sto):=by
 by_cases h:l.length≤30
 ·have hgt:decide (((l.length:Nat):Int) > 30)=false:=by simp;omega
  rw[List.take_of_length_le h];apply tA;rfl;rfl;exact Tryz.func7;rfl;rfl;simp only[go_sem];rfl;refine tQ ?_;repeat first|with_reducible constructor|with_reducible refine tW rfl ?_|((with_reducible apply tG);(·kernel_rfl);(·(intro _ _;(repeat (apply tOp;(·(intro _;simp only[List.length_map,hgt,go_sem];rfl))));rfl));(·(simp only[go_sem];rfl)))
  (with_reducible apply tF);simp only[go_sem];rfl;rfl;refine tQ ?_;repeat first|with_reducible constructor|with_reducible refine tW rfl ?_|((with_reducible apply tG);(·kernel_rfl);(·(intro _ _;(repeat (apply tOp;(·(intro _;simp only[go_sem];rfl))));rfl));(·(simp only[go_sem];rfl)))
  exact dC rfl
 ·have hgt:decide (((l.length:Nat):Int) > 30)=true:=by simp;omega
  have e1:(List.drop (Int.toNat 0) (List.take (Int.toNat 30) (l.map iH)))=(l.take 30).map iH:=by
   rw[List.map_take];rfl
  have hle:decide ((30:Int)≤((l.length:Nat):Int))=true:=by simp;omega
  have hall:((l.take 30).map iH).all (fun y=>Nat.beq y.cells.length 1)=true:=by
   rw[List.all_eq_true];intro x hx;obtain ⟨n,_,rfl⟩:=List.mem_map.1 hx;rfl
  have hhd:qx 1 ((l.take 30).map iH)=true:=by
   cases l with
   |nil=>rfl
   |cons a l=>rfl
  have hlen:((l.take 30).map iH).length=30:=by simp;omega
  apply tA;rfl;rfl;exact Tryz.func7;rfl;rfl;simp only[go_sem];rfl;refine tQ ?_;repeat first|with_reducible constructor|with_reducible refine tW rfl ?_|((with_reducible apply tG);(·kernel_rfl);(·(intro _ _;(repeat (apply tOp;(·(intro _;simp only[List.length_map,hgt,go_sem];rfl))));rfl));(·(simp only[go_sem];rfl)))
  (with_reducible apply tT);simp only[go_sem];rfl;rfl;refine tQ ?_;repeat first|with_reducible constructor|with_reducible refine tW rfl ?_|((with_reducible apply tG);(·kernel_rfl);(·(intro _ _;(repeat (apply tOp;(·(intro _;simp only[Bool.false_eq_true,e1,hle,hall,hhd,hlen,List.length_map,Nat.zero_mul,List.replicate,bI,clean,flat,List.nil_append,go_sem];rfl))));rfl));(·(simp only[go_sem];rfl)))
  exact dC rfl
theorem aIm (sto:Sto) (ys:List Int):∀ (pre:List Int),(pre++ys).length+1 < big →
  ∃ s0 s2 s4 s8,LP 9 (dQ Tryz.f9 0) ⟨[.val (.slice ((pre++ys).map iH)),.dead,.own 3 (vals pre),.val (.int .i64 (pre.length:Nat)),.dead],sto⟩=some (.exit 0,⟨[s0,s2,.own 3 (vals (pre++ys)),s4,s8],sto⟩):=by
 induction ys with
 |nil =>
  intro pre h3;have hlt:=geI pre;simp only[List.append_nil];(iterate 4 apply Exists.intro);refine tI rfl ?_;refine tQ ?_;repeat first|with_reducible constructor|with_reducible refine tW rfl ?_|((with_reducible apply tG);(·kernel_rfl);(·(intro _ _;(repeat (apply tOp;(·(intro _;simp only[List.length_map,go_sem];rfl))));rfl));(·(simp only[go_sem];rfl)))
  (with_reducible apply tF);simp only[go_sem];rfl;exact hlt;refine tQ ?_;repeat first|with_reducible constructor|with_reducible refine tW rfl ?_
  exact tlX;all_goals exact .dead
 |cons y ys ih =>
  intro pre h3;have hget:=oH iH pre ys y;have hlt:=ltI pre ys y;have h0:=zI pre.length;have hw:=wL pre ys y (by omega);have hr:Nat.ble ((vals pre).length+1) room=true:=by apply Nat.ble_eq_true_of_le;simp only[room,kA];simp only[List.length_append,List.length_cons,big] at h3;omega
  have emap:vals (pre++[y])=vals pre++[.agg [.str [],.int .i64 y,.slice []]]:=by rw[gj];rfl
  obtain ⟨s0,s2,s4,s8,ih⟩:=ih (pre++[y]) (by simpa using h3);rw[emap] at ih;simp only[List.append_assoc,List.singleton_append] at ih;simp only[iH] at hget;refine ⟨s0,s2,s4,s8,?_⟩;refine tI rfl ?_;refine tQ ?_;repeat first|with_reducible constructor|with_reducible refine tW rfl ?_|((with_reducible apply tG);(·kernel_rfl);(·(intro _ _;(repeat (apply tOp;(·(intro _;simp only[List.length_map,go_sem];rfl))));rfl));(·(simp only[go_sem];rfl)))
  (with_reducible apply tT);simp only[go_sem];rfl;exact hlt;refine tQ ?_;repeat first|with_reducible constructor|with_reducible refine tW rfl ?_|((with_reducible apply tG);(·kernel_rfl);(·(intro _ _;(repeat (apply tOp;(·(intro _;simp only[hget,h0,hr,hw,bI,clean,flat,List.replicate,List.set_cons_zero,List.set_cons_succ,go_sem];rfl))));rfl));(·(simp only[go_sem];rfl)))
  exact ih
theorem c9 (l:List Int) (hl:l.length+1 < big) (sto:Sto):CF (.fn 9) [.val (.slice (l.map iH))] sto=some (.ret (.val (.slice (vals l))),sto):=by
 obtain ⟨s0,s2,s4,s8,hlp⟩:=aIm sto l [] (by simpa using hl);have e0:vals []=[]:=rfl;simp only[List.nil_append,List.length_nil,e0] at hlp;apply tA;rfl;rfl;exact Tryz.func9;rfl;rfl;simp only[go_sem];rfl;refine tQ ?_;repeat first|with_reducible constructor|with_reducible refine tW rfl ?_|((with_reducible apply tG);(·kernel_rfl);(·(intro _ _;(repeat (apply tOp;(·(intro _;simp only[List.length_map,go_sem];rfl))));rfl));(·(simp only[go_sem];rfl)))
 apply tL;exact hlp;refine tQ ?_;repeat first|with_reducible constructor|with_reducible refine tW rfl ?_|((with_reducible apply tG);(·kernel_rfl);(·(intro _ _;(repeat (apply tOp;(·(intro _;simp only[go_sem];rfl))));rfl));(·(simp only[go_sem];rfl)))
 exact dC rfl
def eC (n:Int) (l:List Int):Nat:=l.countP fun x=>x==n
theorem aHw (n:Int) (sto:Sto) (ys:List Int):∀ (pre:List Int),(pre++ys).length < big →
  ∃ s0 s1 s4 s6 s10 s18,LP 11 (dQ Tryz.f11 0) ⟨[.val (.slice ((pre++ys).map iH)),.val (.int .i64 n),.dead,.val (.int .i64 (eC n pre:Nat)),.val (.int .i64 (pre.length:Nat)),.dead,.dead],sto⟩=some (.exit 0,⟨[s0,s1,s4,.val (.int .i64 (eC n (pre++ys):Nat)),s6,s10,s18],sto⟩):=by
 induction ys with
 |nil =>
  intro pre h3;have hlt:=geI pre;simp only[List.append_nil];(iterate 6 apply Exists.intro);refine tI rfl ?_;refine tQ ?_;repeat first|with_reducible constructor|with_reducible refine tW rfl ?_|((with_reducible apply tG);(·kernel_rfl);(·(intro _ _;(repeat (apply tOp;(·(intro _;simp only[List.length_map,go_sem];rfl))));rfl));(·(simp only[go_sem];rfl)))
  (with_reducible apply tF);simp only[go_sem];rfl;exact hlt;refine tQ ?_;repeat first|with_reducible constructor|with_reducible refine tW rfl ?_
  exact tlX;all_goals exact .dead
 |cons y ys ih =>
  intro pre h3;have hget:=oH iH pre ys y;have hlt:=ltI pre ys y;have h0:=zI pre.length;have hw:=wL pre ys y h3;obtain ⟨s0,s1,s4,s6,s10,s18,ih⟩:=ih (pre++[y]) (by simpa using h3);simp only[List.append_assoc,List.singleton_append] at ih;simp only[iH] at hget;have hcnt:eC n pre≤pre.length:=List.countP_le_length;cases hc:(y==n) with
  |true =>
   have e1:eC n (pre++[y])=eC n pre+1:=by simp [eC,List.countP_append,hc,List.countP_cons]
   have hadd:IntKind.i64.wrap (((eC n pre:Nat):Int)+1)=((eC n pre+1:Nat):Int):=wI _ (by simp at h3;omega);rw[e1] at ih;refine ⟨s0,s1,s4,s6,s10,s18,?_⟩;refine tI rfl ?_;refine tQ ?_;repeat first|with_reducible constructor|with_reducible refine tW rfl ?_|((with_reducible apply tG);(·kernel_rfl);(·(intro _ _;(repeat (apply tOp;(·(intro _;simp only[List.length_map,go_sem];rfl))));rfl));(·(simp only[go_sem];rfl)))
   (with_reducible apply tT);simp only[go_sem];rfl;exact hlt;refine tQ ?_;repeat first|with_reducible constructor|with_reducible refine tW rfl ?_|((with_reducible apply tG);(·kernel_rfl);(·(intro _ _;(repeat (apply tOp;(·(intro _;simp only[hget,h0,hc,go_sem];rfl))));rfl));(·(simp only[go_sem];rfl)))
   (with_reducible apply tT);simp only[go_sem];rfl;rfl;refine tQ ?_;repeat first|with_reducible constructor|with_reducible refine tW rfl ?_|((with_reducible apply tG);(·kernel_rfl);(·(intro _ _;(repeat (apply tOp;(·(intro _;simp only[hadd,hw,go_sem];rfl))));rfl));(·(simp only[go_sem];rfl)))
   exact ih
  |false =>
   have e1:eC n (pre++[y])=eC n pre:=by simp [eC,List.countP_append,hc,List.countP_cons]
   rw[e1] at ih;refine ⟨s0,s1,s4,s6,s10,s18,?_⟩;refine tI rfl ?_;refine tQ ?_;repeat first|with_reducible constructor|with_reducible refine tW rfl ?_|((with_reducible apply tG);(·kernel_rfl);(·(intro _ _;(repeat (apply tOp;(·(intro _;simp only[List.length_map,go_sem];rfl))));rfl));(·(simp only[go_sem];rfl)))
   (with_reducible apply tT);simp only[go_sem];rfl;exact hlt;refine tQ ?_;repeat first|with_reducible constructor|with_reducible refine tW rfl ?_|((with_reducible apply tG);(·kernel_rfl);(·(intro _ _;(repeat (apply tOp;(·(intro _;simp only[hget,h0,hc,go_sem];rfl))));rfl));(·(simp only[go_sem];rfl)))
   (with_reducible apply tF);simp only[go_sem];rfl;rfl;refine tQ ?_;repeat first|with_reducible constructor|with_reducible refine tW rfl ?_|((with_reducible apply tG);(·kernel_rfl);(·(intro _ _;(repeat (apply tOp;(·(intro _;simp only[hw,go_sem];rfl))));rfl));(·(simp only[go_sem];rfl)))
   exact ih
theorem c11 (l:List Int) (n:Int) (hl:l.length < big) (sto:Sto):CF (.fn 11) [.val (.slice (l.map iH)),.val (.int .i64 n)] sto=some (.ret (.val (.int .i64 (eC n l:Nat))),sto):=by
 obtain ⟨s0,s1,s4,s6,s10,s18,hlp⟩:=aHw n sto l [] (by simpa using hl);have e0:eC n []=0:=rfl;simp only[List.nil_append,List.length_nil,e0] at hlp;apply tA;rfl;rfl;exact Tryz.func11;rfl;rfl;simp only[go_sem];rfl;refine tQ ?_;repeat first|with_reducible constructor|with_reducible refine tW rfl ?_|((with_reducible apply tG);(·kernel_rfl);(·(intro _ _;(repeat (apply tOp;(·(intro _;simp only[List.length_map,go_sem];rfl))));rfl));(·(simp only[go_sem];rfl)))
 apply tL;exact hlp;refine tQ ?_;repeat first|with_reducible constructor|with_reducible refine tW rfl ?_|((with_reducible apply tG);(·kernel_rfl);(·(intro _ _;(repeat (apply tOp;(·(intro _;simp only[go_sem];rfl))));rfl));(·(simp only[go_sem];rfl)))
 exact dC rfl
end Go.Proofs.YtdkkaldimefljaaGreatDoor
end
