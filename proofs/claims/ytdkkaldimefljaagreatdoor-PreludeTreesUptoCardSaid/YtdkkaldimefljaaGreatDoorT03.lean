import Derived.Test.YtdkkaldimefljaaGreatDoorT02
import Derived.Test.YtdkkaldimefljaaGreatDoorA14
set_option linter.all false
section
namespace Go.Proofs.YtdkkaldimefljaaGreatDoor
open Go.AM
variable [Aps]
set_option maxRecDepth 100000
set_option maxHeartbeats 8000000
def vals (l:List Int):List AVal:=l.map fun n=>.agg [.str [],.int .i64 n,.slice []]
theorem gj (a b:List Int):vals (a++b)=vals a++vals b:=by simp [vals]
theorem kA (a:List Int):(vals a).length=a.length:=by simp [vals]
theorem gY:∀ t:Tr,t.flat.length=t.nodes
 |.leaf=>rfl
 |.node l x r=>by simp only[Tr.flat,Tr.nodes,List.length_append,List.length_cons,gY l,gY r];omega
def rW (t:Tr):Slot:=match t with
 |.leaf=>.nl
 |t=>.own 3 (vals t.flat)
theorem aIk:∀ (t:Tr) (X:List AVal) (sto:Sto),X.length+t.nodes < big→CF (.fn 128) [.own 3 X,.val t.val.enc] sto=some (.ret (.own 3 (X++vals t.flat)),sto):=by
 intro t;induction t with
 |leaf =>
  intro X sto _;simp only[lM,Tr.flat,vals,List.map_nil,List.append_nil];apply tA;rfl;rfl;exact Tryz.func128;rfl;rfl;simp only[go_sem];rfl;refine tQ ?_;repeat first|with_reducible constructor|with_reducible refine tW rfl ?_|((with_reducible apply tG);(·kernel_rfl);(·(intro _ _;(repeat (apply tOp;(·(intro _;simp only[go_sem];rfl))));rfl));(·(simp only[go_sem];rfl)))
  (with_reducible apply tT);simp only[go_sem];rfl;rfl;refine tQ ?_;repeat first|with_reducible constructor|with_reducible refine tW rfl ?_|((with_reducible apply tG);(·kernel_rfl);(·(intro _ _;(repeat (apply tOp;(·(intro _;simp only[go_sem];rfl))));rfl));(·(simp only[go_sem];rfl)))
  exact dC rfl
 |node l x r ihl ihr =>
  intro X sto hX;simp only[Tr.nodes] at hX;have hfl:=gY l;have hl:=fun S=>ihl X S (by omega)
  have hr:=fun S=>ihr (X++vals l.flat++[.agg [.str [],.int .i64 x,.slice []]]) S (by simp [kA,hfl];omega)
  have hroom:Nat.ble ((X++vals l.flat).length+1) room=true:=by
   apply Nat.ble_eq_true_of_le;simp only[room,List.length_append,kA,hfl];simp only[big] at hX;omega
  have e1:X++vals (Tr.node l x r).flat=X++vals l.flat++[.agg [.str [],.int .i64 x,.slice []]]++vals r.flat:=by simp [Tr.flat,vals]
  rw[e1];simp only[hU];rw[VaD.enc_eq l.val] at hl ⊢;rw[VaD.enc_eq r.val] at hr ⊢;apply tA;rfl;rfl;exact Tryz.func128;rfl;rfl;simp only[go_sem];rfl;refine tQ ?_;repeat first|with_reducible constructor|with_reducible refine tW rfl ?_|((with_reducible apply tG);(·kernel_rfl);(·(intro _ _;(repeat (apply tOp;(·(intro _;simp only[go_sem];rfl))));rfl));(·(simp only[go_sem];rfl)))
  (with_reducible apply tF);simp only[go_sem];rfl;rfl;refine tQ ?_;repeat first|with_reducible constructor|with_reducible refine tW rfl ?_|((with_reducible apply tG);(·kernel_rfl);(·(intro _ _;(repeat (apply tOp;(·(intro _;simp only[hl,hr,hroom,bI,clean,flat,List.replicate,List.set_cons_zero,List.set_cons_succ,beq_self_eq_true,cH,go_sem];rfl))));rfl));(·(simp only[go_sem];rfl)))
  exact dC rfl
theorem aFL:∀ (t:Tr) (sto:Sto),t.nodes < big→CF (.fn 128) [.nl,.val t.val.enc] sto=some (.ret (rW t),sto):=by
 intro t;induction t with
 |leaf =>
  intro sto _;simp only[lM,rW];apply tA;rfl;rfl;exact Tryz.func128;rfl;rfl;simp only[go_sem];rfl;refine tQ ?_;repeat first|with_reducible constructor|with_reducible refine tW rfl ?_|((with_reducible apply tG);(·kernel_rfl);(·(intro _ _;(repeat (apply tOp;(·(intro _;simp only[go_sem];rfl))));rfl));(·(simp only[go_sem];rfl)))
  (with_reducible apply tT);simp only[go_sem];rfl;rfl;refine tQ ?_;repeat first|with_reducible constructor|with_reducible refine tW rfl ?_|((with_reducible apply tG);(·kernel_rfl);(·(intro _ _;(repeat (apply tOp;(·(intro _;simp only[go_sem];rfl))));rfl));(·(simp only[go_sem];rfl)))
  exact dC rfl
 |node l x r ihl ihr =>
  intro sto hX;simp only[Tr.nodes] at hX;have hfl:=gY l;have hl:=fun S=>ihl S (by omega)
  have hr:=fun S=>aIk r (vals l.flat++[.agg [.str [],.int .i64 x,.slice []]]) S (by simp [kA,hfl];omega)
  have hroom:Nat.ble ((vals l.flat).length+1) room=true:=by
   apply Nat.ble_eq_true_of_le;simp only[room,kA,hfl];simp only[big] at hX;omega
  have hroom1:Nat.ble 1 room=true:=rfl;have e1:rW (Tr.node l x r)=.own 3 (vals l.flat++[.agg [.str [],.int .i64 x,.slice []]]++vals r.flat):=by simp [rW,Tr.flat,vals]
  rw[e1];cases l with
  |leaf =>
   have e2:vals Tr.leaf.flat=[]:=rfl;simp only[e2,List.nil_append,rW] at hl hr ⊢;simp only[hU,lM] at hl ⊢;rw[VaD.enc_eq r.val] at hr ⊢;apply tA;rfl;rfl;exact Tryz.func128;rfl;rfl;simp only[go_sem];rfl;refine tQ ?_;repeat first|with_reducible constructor|with_reducible refine tW rfl ?_|((with_reducible apply tG);(·kernel_rfl);(·(intro _ _;(repeat (apply tOp;(·(intro _;simp only[go_sem];rfl))));rfl));(·(simp only[go_sem];rfl)))
   (with_reducible apply tF);simp only[go_sem];rfl;rfl;refine tQ ?_;repeat first|with_reducible constructor|with_reducible refine tW rfl ?_|((with_reducible apply tG);(·kernel_rfl);(·(intro _ _;(repeat (apply tOp;(·(intro _;simp only[hl,hr,hroom1,bI,clean,flat,List.replicate,List.set_cons_zero,List.set_cons_succ,beq_self_eq_true,cH,go_sem];rfl))));rfl));(·(simp only[go_sem];rfl)))
   exact dC rfl
  |node ll y lr =>
   have e2:rW (Tr.node ll y lr)=.own 3 (vals (Tr.node ll y lr).flat):=rfl;rw[e2] at hl;generalize Tr.node ll y lr=l at *;simp only[hU];rw[VaD.enc_eq l.val] at hl ⊢;rw[VaD.enc_eq r.val] at hr ⊢;apply tA;rfl;rfl;exact Tryz.func128;rfl;rfl;simp only[go_sem];rfl;refine tQ ?_;repeat first|with_reducible constructor|with_reducible refine tW rfl ?_|((with_reducible apply tG);(·kernel_rfl);(·(intro _ _;(repeat (apply tOp;(·(intro _;simp only[go_sem];rfl))));rfl));(·(simp only[go_sem];rfl)))
   (with_reducible apply tF);simp only[go_sem];rfl;rfl;refine tQ ?_;repeat first|with_reducible constructor|with_reducible refine tW rfl ?_|((with_reducible apply tG);(·kernel_rfl);(·(intro _ _;(repeat (apply tOp;(·(intro _;simp only[hl,hr,hroom,bI,clean,flat,List.replicate,List.set_cons_zero,List.set_cons_succ,beq_self_eq_true,cH,go_sem];rfl))));rfl));(·(simp only[go_sem];rfl)))
   exact dC rfl
theorem aMY:∀ (t:Tr) (sto:Sto),t.nodes < big→CF (.fn 129) [.val t.val.enc] sto=some (.ret (.val (.int .i64 (t.depth:Nat))),sto):=by
 have hd:∀ t:Tr,t.depth≤t.nodes:=fun t=>by
  induction t with
  |leaf=>exact Nat.le_refl _
  |node l x r h1 h2=>simp only[Tr.depth,Tr.nodes];omega
 intro t;induction t with
 |leaf =>
  intro sto _;simp only[lM,Tr.depth];apply tA;rfl;rfl;exact Tryz.func129;rfl;rfl;simp only[go_sem];rfl;refine tQ ?_;repeat first|with_reducible constructor|with_reducible refine tW rfl ?_|((with_reducible apply tG);(·kernel_rfl);(·(intro _ _;(repeat (apply tOp;(·(intro _;simp only[go_sem];rfl))));rfl));(·(simp only[go_sem];rfl)))
  (with_reducible apply tT);simp only[go_sem];rfl;rfl;refine tQ ?_;repeat first|with_reducible constructor|with_reducible refine tW rfl ?_|((with_reducible apply tG);(·kernel_rfl);(·(intro _ _;(repeat (apply tOp;(·(intro _;simp only[go_sem];rfl))));rfl));(·(simp only[go_sem];rfl)))
  exact dC rfl
 |node l x r ihl ihr =>
  intro sto hX;have hb:=hd (.node l x r);simp only[Tr.nodes,Tr.depth] at hX hb;have hl:=fun S=>ihl S (by omega)
  have hr:=fun S=>ihr S (by omega)
  have hmx:(bif decide (((r.depth:Nat):Int) > ((l.depth:Nat):Int)) then ((r.depth:Nat):Int) else ((l.depth:Nat):Int))=((max l.depth r.depth:Nat):Int):=by
   by_cases h:r.depth > l.depth
   ·rw[show decide (((r.depth:Nat):Int) > ((l.depth:Nat):Int))=true by simp;omega,cond_true];omega
   ·rw[show decide (((r.depth:Nat):Int) > ((l.depth:Nat):Int))=false by simp;omega,cond_false];omega
  have hw:IntKind.i64.wrap (1+((max l.depth r.depth:Nat):Int))=(((Tr.node l x r).depth:Nat):Int):=by
   simp only[big] at hX;rw[wG (by omega) (by omega)];simp only[Tr.depth];omega
  simp only[hU];rw[VaD.enc_eq l.val] at hl ⊢;rw[VaD.enc_eq r.val] at hr ⊢;apply tA;rfl;rfl;exact Tryz.func129;rfl;rfl;simp only[go_sem];rfl;refine tQ ?_;repeat first|with_reducible constructor|with_reducible refine tW rfl ?_|((with_reducible apply tG);(·kernel_rfl);(·(intro _ _;(repeat (apply tOp;(·(intro _;simp only[go_sem];rfl))));rfl));(·(simp only[go_sem];rfl)))
  (with_reducible apply tF);simp only[go_sem];rfl;rfl;refine tQ ?_;repeat first|with_reducible constructor|with_reducible refine tW rfl ?_|((with_reducible apply tG);(·kernel_rfl);(·(intro _ _;(repeat (apply tOp;(·(intro _;simp only[hl,hr,hmx,hw,beq_self_eq_true,cH,go_sem];rfl))));rfl));(·(simp only[go_sem];rfl)))
  exact dC rfl
end Go.Proofs.YtdkkaldimefljaaGreatDoor
end
section
namespace Go.Proofs.YtdkkaldimefljaaGreatDoor
open Go.AM
variable [Aps]
set_option maxRecDepth 100000
set_option maxHeartbeats 8000000
def aS (v:VaD):List Cell:=[.val (.str v.con),.val (.int .i64 v.num),.val (.slice (v.args.map VaD.enc))]
theorem aJi (v:VaD) (sto:Sto):CF (.fn 115) [.val v.enc] sto=some (.ret (.val (.func 161 [.loc sto.objs.length 0])),⟨sto.objs++[.box (aS v)],sto.lo⟩):=by
 rw[v.enc_eq,aS];apply tA;rfl;rfl;exact Tryz.func115;rfl;rfl;simp only[go_sem];rfl;refine tQ ?_;repeat first|with_reducible constructor|with_reducible refine tW rfl ?_|((with_reducible apply tG);(·kernel_rfl);(·(intro _ _;(repeat (apply tOp;(·(intro _;simp only[FL,FO,go_sem];rfl))));rfl));(·(simp only[go_sem];rfl)))
 refine aJt (t:=2) rfl rfl rfl ?_;simp only[lok,List.all_cons,lokF,aJf,Bool.false_and]
theorem dX (l:List VaD):(aW l).enc=.agg [.str (aW l).con,.int .i64 (aW l).num,.slice ((aW l).args.map VaD.enc)]:=VaD.enc_eq _
theorem aE9 {A:Type} {j a:Nat} (S:VaD→A→Sto) (step:A→VaD→A) (I:A→Nat→Prop) (ha:∀ v x,(S v x).objs[a]?=some (.box (aS v))) (hlo:∀ v x,(S v x).lo≤a)
  (dJ:∀ v w x,({ S v x with objs:=(S v x).objs.set a (.box (aS w)) }:Sto)=S w x) (hI:∀ x n y,I x (n+1)→I (step x y) n)
  (hy:∀ v x n y,I x (n+1)→CF (.yld j) [.val y.enc] (S v x)=some (.ret (.val (.bool true)),S v (step x y))):∀ (l:List VaD) (x:A),I x l.length →
  ∃ s0 s1 s5 s12,LP 161 (dQ Tryz.f161 0) ⟨[.val (.yld j),.val (.loc a 0),.dead,.dead],S (aW l) x⟩=some (.exit 0,⟨[s0,s1,s5,s12],S (aW []) (l.foldl step x)⟩):=by
 intro l;induction l with
 |nil =>
  intro x hx;have hob:=ha (aW []) x;simp only[aW,aS,VaD.con,VaD.num,VaD.args,nilS,List.map_nil] at hob;simp only[List.foldl_nil];(iterate 4 apply Exists.intro);refine tI rfl ?_;refine tQ ?_;repeat first|with_reducible constructor|with_reducible refine tW rfl ?_|((with_reducible apply tG);(·kernel_rfl);(·(intro _ _;(repeat (apply tOp;(·(intro _;simp only[hob,aW,nilS,go_sem];rfl))));rfl));(·(simp only[go_sem];rfl)))
  (with_reducible apply tF);simp only[go_sem];rfl;rfl;refine tQ ?_;repeat first|with_reducible constructor|with_reducible refine tW rfl ?_
  exact tlX;all_goals exact .dead
 |cons y ys ih =>
  intro x hx;have hob:=ha (aW (y::ys)) x;have hob2:=ha (aW (y::ys)) (step x y);have hle:=Nat.ble_eq_true_of_le (hlo (aW (y::ys)) (step x y));have hs:=dJ (aW (y::ys)) (aW ys) (step x y);have hc:=hy (aW (y::ys)) x _ y hx;obtain ⟨s0,s1,s5,s12,ih⟩:=ih (step x y) (hI _ _ _ hx);generalize hS1:S (aW (y::ys)) x=S1 at *;generalize hS2:S (aW (y::ys)) (step x y)=S2 at *;simp only[List.foldl_cons];rw[←hs] at ih;simp only[aW,aS,VaD.con,VaD.num,VaD.args,tC,List.map_cons,List.map_nil] at hob hob2;simp only[aS] at ih;rw[y.enc_eq] at hob hob2 hc;rw[dX ys] at hob hob2;refine ⟨s0,s1,s5,s12,?_⟩;refine tI rfl ?_;refine tQ ?_;repeat first|with_reducible constructor|with_reducible refine tW rfl ?_|((with_reducible apply tG);(·kernel_rfl);(·(intro _ _;(repeat (apply tOp;(·(intro _;simp only[hob,go_sem];rfl))));rfl));(·(simp only[go_sem];rfl)))
  (with_reducible apply tT);simp only[go_sem];rfl;rfl;refine tQ ?_;repeat first|with_reducible constructor|with_reducible refine tW rfl ?_|((with_reducible apply tG);(·kernel_rfl);(·(intro _ _;(repeat (apply tOp;(·(intro _;simp only[hob,hc,go_sem];rfl))));rfl));(·(simp only[go_sem];rfl)))
  (with_reducible apply tF);simp only[go_sem];rfl;rfl;refine tQ ?_;repeat first|with_reducible constructor|with_reducible refine tW rfl ?_|((with_reducible apply tG);(·kernel_rfl);(·(intro _ _;(repeat (apply tOp;(·(intro _;simp only[hob2,hle,go_sem];rfl))));rfl));(·(simp only[go_sem];rfl)))
  exact ih
theorem aJ0 {A:Type} {j a:Nat} (S:VaD→A→Sto) (step:A→VaD→A) (I:A→Nat→Prop) (ha:∀ v x,(S v x).objs[a]?=some (.box (aS v))) (hlo:∀ v x,(S v x).lo≤a)
  (dJ:∀ v w x,({ S v x with objs:=(S v x).objs.set a (.box (aS w)) }:Sto)=S w x) (hI:∀ x n y,I x (n+1)→I (step x y) n)
  (hy:∀ v x n y,I x (n+1)→CF (.yld j) [.val y.enc] (S v x)=some (.ret (.val (.bool true)),S v (step x y))) (l:List VaD) (x:A) (hx:I x l.length) :
  CF (.fn 161) [.val (.yld j),.val (.loc a 0)] (S (aW l) x)=some (.ret (.tup []),⟨(S (aW []) (l.foldl step x)).objs.take (S (aW l) x).objs.length,(S (aW []) (l.foldl step x)).lo⟩):=by
 obtain ⟨s0,s1,s5,s12,hlp⟩:=aE9 S step I ha hlo dJ hI hy l x hx;apply tA;rfl;rfl;exact Tryz.func161;rfl;rfl;simp only[go_sem];rfl;refine tQ ?_;repeat first|with_reducible constructor|with_reducible refine tW rfl ?_
 apply tL;exact hlp;refine tQ ?_;repeat first|with_reducible constructor|with_reducible refine tW rfl ?_
 exact rfl
noncomputable def gz (O:List AObj) (lo:Nat) (tm:List Slot) (v:VaD) (X:List AVal):Sto :=
 ⟨O++[.box [.own 1 X],.box (aS v),.loop (lB 61 Tryz.f61 0 tm none .ready)],lo⟩
theorem y61 {O:List AObj} {lo:Nat} (hlo:lo≤O.length) {X:List AVal} (hX:X.length+1 < big) {v y:VaD} {s0 s1 s2 s4 s6 s7} :
  CF (.yld (O.length+2)) [.val y.enc] (gz O lo [s0,s1,s2,.val (.loc O.length 0),s4,s6,s7] v X)=some (.ret (.val (.bool true)),gz O lo [s0,s1,s2,.val (.loc O.length 0),s4,s6,s7] v (X++[.int .i64 y.num])):=by
 have hb0:Nat.ble lo O.length=true:=Nat.ble_eq_true_of_le (by omega);have hr:Nat.ble (X.length+1) room=true:=Nat.ble_eq_true_of_le (by simp only[big] at hX;unfold room;omega);rw[y.enc_eq];unfold gz;apply tY
 ·(simp only[FL,FO];try rfl)
 ·rfl
 ·kernel_rfl
 ·first|assumption|(apply Nat.ble_eq_true_of_le;(try simp only[FL,FO]);omega)
 ·(simp only[cG,List.zip,List.zipWith,List.reverse_cons,List.reverse_nil,go_sem];rfl)
 refine tQ ?_;repeat first|with_reducible constructor|with_reducible refine tW rfl ?_|((with_reducible apply tG);(·kernel_rfl);(·(intro _ _;(repeat (apply tOp;(·(intro _;simp only[FL,FO,go_sem];rfl))));rfl));(·(simp only[go_sem];rfl)))
 apply ty1
 ·(simp only[FL,FO];try rfl)
 ·(simp only[FL,FO];try rfl)
 refine tQ ?_;repeat first|with_reducible constructor|with_reducible refine tW rfl ?_|((with_reducible apply tG);(·kernel_rfl);(·(intro _ _;(repeat (apply tOp;(·(intro _;simp only[FL,FO,hb0,hr,bI,clean,flat,List.replicate,List.set_cons_zero,List.set_cons_succ,Nat.add_zero,go_sem];rfl))));rfl));(·(simp only[go_sem];rfl)))
 apply xh
 ·(simp only[FL,FO];try rfl)
 ·(simp only[FL,FO];try rfl)
end Go.Proofs.YtdkkaldimefljaaGreatDoor
end
section
namespace Go.Proofs.YtdkkaldimefljaaGreatDoor
open Go.AM
variable [Aps]
set_option maxRecDepth 100000
set_option maxHeartbeats 8000000
theorem rF {α:Type} (g:α→AVal):∀ (l:List α) (X:List AVal),l.foldl (fun X y=>X++[g y]) X=X++l.map g
 |[],X=>by simp
 |y::l,X=>by simp [rF g l]
theorem c61 (l:List VaD) (hl:l.length+1 < big) (sto:Sto) (hlo:sto.lo≤sto.objs.length):CF (.fn 61) [.val (aW l).enc] sto=some (.ret (.val (.slice (l.map fun v=>.int .i64 v.num))),sto):=by
 have hb0:Nat.ble sto.lo sto.objs.length=true:=Nat.ble_eq_true_of_le (by omega);have h115:=fun s=>aJi (aW l) s
 have hc:=fun s0 s1 s2 s4 s6 s7=>aJ0 (A:=List AVal) (j:=sto.objs.length+2) (a:=sto.objs.length+1) (fun v X=>gz sto.objs sto.lo [s0,s1,s2,.val (.loc sto.objs.length 0),s4,s6,s7] v X) (fun X y=>X++[.int .i64 y.num]) (fun X n=>X.length+n < big)
  (fun v X=>by simp only[gz,FL,FO]) (fun v X=>by simp only[gz];omega) (fun v w X=>by simp only[gz,FL,FO]) (fun X n y h=>by simp at h ⊢;omega) (fun v X n y h=>y61 hlo (by omega) (s0:=s0) (s1:=s1) (s2:=s2) (s4:=s4) (s6:=s6) (s7:=s7)) l [] (by simp;omega)
 have e0:l.foldl (fun (X:List AVal) (y:VaD)=>X++[AVal.int .i64 y.num]) []=l.map (fun v=>AVal.int .i64 v.num):=by rw[rF (fun y:VaD=>AVal.int .i64 y.num)];simp
 simp only[e0] at hc;simp only[gz,FL,FO] at hc;rw[dX l] at h115 ⊢;apply tA;rfl;rfl;exact Tryz.func61;rfl;rfl;simp only[go_sem];rfl;refine tQ ?_;repeat first|with_reducible constructor|with_reducible refine tW rfl ?_|((with_reducible apply tG);(·kernel_rfl);(·(intro _ _;(repeat (apply tOp;(·(intro _;simp only[FL,FO,h115,hb0,aB9,Nat.add_assoc,Nat.add_zero,go_sem];rfl))));rfl));(·(simp only[go_sem];rfl)))
 with_reducible apply tGn
 ·rfl
 ·simp only[FL,FO]
  exact hc _ _ _ _ _ _
 ·simp only[FL,FO]
  rfl
 ·simp only[FL,FO]
  rfl
 refine tQ ?_;repeat first|with_reducible constructor|with_reducible refine tW rfl ?_|((with_reducible apply tG);(·kernel_rfl);(·(intro _ _;(repeat (apply tOp;(·(intro _;simp only[FL,FO,hb0,Nat.add_zero,go_sem];rfl))));rfl));(·(simp only[go_sem];rfl)))
 exact nW [_,_] rfl
noncomputable def rT (O:List AObj) (lo:Nat) (tm:List Slot) (v:VaD) (X:List AVal):Sto :=
 ⟨O++[.box (aS v),.box [.own 3 X],.loop (lB 160 Tryz.f160 0 tm none .ready)],lo⟩
theorem aKt {O:List AObj} {lo:Nat} (hlo:lo≤O.length) {X:List AVal} (hX:X.length+1 < big) {v y:VaD} {s0 s1 s4 s5 s6 s7} :
  CF (.yld (O.length+2)) [.val y.enc] (rT O lo [s0,s1,.val (.loc (O.length+1) 0),s4,s5,s6,s7] v X)=some (.ret (.val (.bool true)),rT O lo [s0,s1,.val (.loc (O.length+1) 0),s4,s5,s6,s7] v (X++[y.enc])):=by
 have hb0:Nat.ble lo O.length=true:=Nat.ble_eq_true_of_le (by omega);have hb1:Nat.ble lo (O.length+1)=true:=Nat.ble_eq_true_of_le (by omega);have hr:Nat.ble (X.length+1) room=true:=Nat.ble_eq_true_of_le (by simp only[big] at hX;unfold room;omega);rw[y.enc_eq];unfold rT;apply tY
 ·(simp only[FL,FO];try rfl)
 ·rfl
 ·kernel_rfl
 ·first|assumption|(apply Nat.ble_eq_true_of_le;(try simp only[FL,FO]);omega)
 ·(simp only[cG,List.zip,List.zipWith,List.reverse_cons,List.reverse_nil,go_sem];rfl)
 refine tQ ?_;repeat first|with_reducible constructor|with_reducible refine tW rfl ?_|((with_reducible apply tG);(·kernel_rfl);(·(intro _ _;(repeat (apply tOp;(·(intro _;simp only[FL,FO,go_sem];rfl))));rfl));(·(simp only[go_sem];rfl)))
 apply ty1
 ·(simp only[FL,FO];try rfl)
 ·(simp only[FL,FO];try rfl)
 refine tQ ?_;repeat first|with_reducible constructor|with_reducible refine tW rfl ?_
 apply aNb (sz:=3)
 ·kernel_rfl
 ·kernel_rfl
 ·simp only[go_sem];rfl
 ·simp only[go_sem];rfl
 ·simp only[FL,FO];rfl
 ·simp only[FL,FO,hr,hb1,go_sem];rfl
 simp only[FL,FO];repeat first|with_reducible constructor|with_reducible refine tW rfl ?_
 apply xh
 ·(simp only[FL,FO];try rfl)
 ·(simp only[FL,FO];try rfl)
end Go.Proofs.YtdkkaldimefljaaGreatDoor
end
