import Derived.Test.YtdkkaldimefljaaGreatDoorT07
set_option linter.all false
section
namespace Go.Proofs.YtdkkaldimefljaaGreatDoor
open Go.AM
variable [Aps]
set_option maxRecDepth 100000
set_option maxHeartbeats 32000000
inductive fY:TyD→VaD→Prop
 |int (n:Int):fY (.mk [73,110,116] []) (b9 n)
 |bool (b:Bool):fY (.mk [66,111,111,108] []) (eB b)
 |nil (a:TyD):fY (.mk [76,105,115,116] [a]) (.mk [78,105,108] 0 [])
 |cons (a:TyD) (x l:VaD) (h1:fY a x) (h2:fY (.mk [76,105,115,116] [a]) l):fY (.mk [76,105,115,116] [a]) (.mk [67,111,110,115] 0 [x,l])
 |leaf (a:TyD):fY (.mk [84,114,101,101] [a]) (.mk [76,101,97,102] 0 [])
 |node (a:TyD) (l x r:VaD) (h1:fY (.mk [84,114,101,101] [a]) l) (h2:fY a x) (h3:fY (.mk [84,114,101,101] [a]) r):fY (.mk [84,114,101,101] [a]) (.mk [78,111,100,101] 0 [l,x,r])
 |fin:fY (.mk [73,110,116,115] []) (.mk [69,110,100] 0 [])
 |item (x l:VaD) (h1:fY (.mk [73,110,116] []) x) (h2:fY (.mk [73,110,116,115] []) l):fY (.mk [73,110,116,115] []) (.mk [73,116,101,109] 0 [x,l])
 |var (v:VaD):fY (.mk [39,97] []) v
theorem hQ (ts:List TyD) (v:VaD) (hl:ts.length=v.args.length) (hb:ts.length < big) (sto:Sto) (h:∀ (i:Nat) (t:TyD) (w:VaD),ts[i]?=some t→v.args[i]?=some w→∀ S:Sto,S.lo≤S.objs.length→CF (.fn 113) [.val t.enc,.val w.enc] S=some (.ret (.val (.bool true)),S)) (hlo:sto.lo≤sto.objs.length) :
  CF (.fn 159) [.val (.slice (ts.map TyD.enc)),.val (.loc sto.objs.length 0)] ⟨sto.objs++[.box (aS v)],sto.lo⟩=some (.ret (.val (.bool true)),⟨sto.objs++[.box (aS v)],sto.lo⟩) :=
 aMe ts v _ hl _ (by simp) (c45 ts v.args hl hb _ fun i t w h1 h2=>h i t w h1 h2 _ (by simp;omega))
theorem aNM:∀ (t:TyD) (v:VaD),fY t v→∀ sto:Sto,sto.lo≤sto.objs.length→CF (.fn 113) [.val t.enc,.val v.enc] sto=some (.ret (.val (.bool true)),sto):=by
 intro t v hv;induction hv with
 |int n =>
  intro sto hlo;rw[dN,TyD.enc_mk,List.map_nil];apply tA;rfl;rfl;exact Tryz.func113;rfl;rfl;simp only[go_sem];rfl;refine tQ ?_;repeat first|with_reducible constructor|with_reducible refine tW rfl ?_|((with_reducible apply tG);(·kernel_rfl);(·(intro _ _;(repeat (apply tOp;(·(intro _;simp only[FL,FO,Nat.add_zero,go_sem];rfl))));rfl));(·(simp only[go_sem];rfl)))
  (with_reducible apply tT);simp only[go_sem];rfl;rfl;refine tQ ?_;repeat first|with_reducible constructor|with_reducible refine tW rfl ?_|((with_reducible apply tG);(·kernel_rfl);(·(intro _ _;(repeat (apply tOp;(·(intro _;simp only[FL,FO,Nat.add_zero,go_sem];rfl))));rfl));(·(simp only[go_sem];rfl)))
  exact nW [_] rfl
 |bool b =>
  intro sto hlo;cases b with
  |true =>
   have h:=hQ [] (.mk [84,114,117,101] 0 []) rfl (by simp [big]) sto (fun i t w h1 _=>by simp at h1) hlo;simp only[List.map_nil,aS,VaD.con,VaD.num,VaD.args] at h;simp only[eB,VaD.enc_mk,TyD.enc_mk,List.map_nil,cond_true];apply tA;rfl;rfl;exact Tryz.func113;rfl;rfl;simp only[go_sem];rfl;refine tQ ?_;repeat first|with_reducible constructor|with_reducible refine tW rfl ?_|((with_reducible apply tG);(·kernel_rfl);(·(intro _ _;(repeat (apply tOp;(·(intro _;simp only[FL,FO,Nat.add_zero,go_sem];rfl))));rfl));(·(simp only[go_sem];rfl)))
   (with_reducible apply tF);simp only[go_sem];rfl;rfl;refine tQ ?_;repeat first|with_reducible constructor|with_reducible refine tW rfl ?_|((with_reducible apply tG);(·kernel_rfl);(·(intro _ _;(repeat (apply tOp;(·(intro _;simp only[FL,FO,Nat.add_zero,go_sem];rfl))));rfl));(·(simp only[go_sem];rfl)))
   (with_reducible apply tT);simp only[go_sem];rfl;rfl;refine tQ ?_;repeat first|with_reducible constructor|with_reducible refine tW rfl ?_|((with_reducible apply tG);(·kernel_rfl);(·(intro _ _;(repeat (apply tOp;(·(intro _;simp only[FL,FO,Nat.add_zero,h,go_sem];rfl))));rfl));(·(simp only[go_sem];rfl)))
   exact nW [_] rfl
  |false =>
   have h:=hQ [] (.mk [70,97,108,115,101] 0 []) rfl (by simp [big]) sto (fun i t w h1 _=>by simp at h1) hlo;simp only[List.map_nil,aS,VaD.con,VaD.num,VaD.args] at h;simp only[eB,VaD.enc_mk,TyD.enc_mk,List.map_nil,cond_false];apply tA;rfl;rfl;exact Tryz.func113;rfl;rfl;simp only[go_sem];rfl;refine tQ ?_;repeat first|with_reducible constructor|with_reducible refine tW rfl ?_|((with_reducible apply tG);(·kernel_rfl);(·(intro _ _;(repeat (apply tOp;(·(intro _;simp only[FL,FO,Nat.add_zero,go_sem];rfl))));rfl));(·(simp only[go_sem];rfl)))
   (with_reducible apply tF);simp only[go_sem];rfl;rfl;refine tQ ?_;repeat first|with_reducible constructor|with_reducible refine tW rfl ?_|((with_reducible apply tG);(·kernel_rfl);(·(intro _ _;(repeat (apply tOp;(·(intro _;simp only[FL,FO,Nat.add_zero,go_sem];rfl))));rfl));(·(simp only[go_sem];rfl)))
   (with_reducible apply tT);simp only[go_sem];rfl;rfl;refine tQ ?_;repeat first|with_reducible constructor|with_reducible refine tW rfl ?_|((with_reducible apply tG);(·kernel_rfl);(·(intro _ _;(repeat (apply tOp;(·(intro _;simp only[FL,FO,Nat.add_zero,h,go_sem];rfl))));rfl));(·(simp only[go_sem];rfl)))
   exact nW [_] rfl
 |nil a =>
  intro sto hlo;have h:=hQ [] (.mk [78,105,108] 0 []) rfl (by simp [big]) sto (fun i t w h1 _=>by simp at h1) hlo;simp only[List.map_nil,aS,VaD.con,VaD.num,VaD.args] at h;simp only[VaD.enc_mk,TyD.enc_mk,List.map_cons,List.map_nil];rw[gQ a];apply tA;rfl;rfl;exact Tryz.func113;rfl;rfl;simp only[go_sem];rfl;refine tQ ?_;repeat first|with_reducible constructor|with_reducible refine tW rfl ?_|((with_reducible apply tG);(·kernel_rfl);(·(intro _ _;(repeat (apply tOp;(·(intro _;simp only[FL,FO,Nat.add_zero,go_sem];rfl))));rfl));(·(simp only[go_sem];rfl)))
  (with_reducible apply tF);simp only[go_sem];rfl;rfl;refine tQ ?_;repeat first|with_reducible constructor|with_reducible refine tW rfl ?_|((with_reducible apply tG);(·kernel_rfl);(·(intro _ _;(repeat (apply tOp;(·(intro _;simp only[FL,FO,Nat.add_zero,go_sem];rfl))));rfl));(·(simp only[go_sem];rfl)))
  (with_reducible apply tF);simp only[go_sem];rfl;rfl;refine tQ ?_;repeat first|with_reducible constructor|with_reducible refine tW rfl ?_|((with_reducible apply tG);(·kernel_rfl);(·(intro _ _;(repeat (apply tOp;(·(intro _;simp only[FL,FO,Nat.add_zero,go_sem];rfl))));rfl));(·(simp only[go_sem];rfl)))
  (with_reducible apply tF);simp only[go_sem];rfl;rfl;refine tQ ?_;repeat first|with_reducible constructor|with_reducible refine tW rfl ?_|((with_reducible apply tG);(·kernel_rfl);(·(intro _ _;(repeat (apply tOp;(·(intro _;simp only[FL,FO,Nat.add_zero,go_sem];rfl))));rfl));(·(simp only[go_sem];rfl)))
  (with_reducible apply tT);simp only[go_sem];rfl;rfl;refine tQ ?_;repeat first|with_reducible constructor|with_reducible refine tW rfl ?_|((with_reducible apply tG);(·kernel_rfl);(·(intro _ _;(repeat (apply tOp;(·(intro _;simp only[FL,FO,Nat.add_zero,h,go_sem];rfl))));rfl));(·(simp only[go_sem];rfl)))
  exact nW [_] rfl
 |cons a x l h1 h2 ih1 ih2 =>
  intro sto hlo
  have h:=hQ [a,.mk [76,105,115,116] [a]] (.mk [67,111,110,115] 0 [x,l]) rfl (by simp [big]) sto (fun i t w h1 h2=>by
   match i with
   |0=>cases h1;cases h2;exact ih1
   |1=>cases h1;cases h2;exact ih2
   |i+2=>simp at h1) hlo
  simp only[List.map_cons,List.map_nil,aS,VaD.con,VaD.num,VaD.args,TyD.enc_mk] at h;rw[VaD.enc_eq x,VaD.enc_eq l,gQ a] at h;simp only[VaD.enc_mk,TyD.enc_mk,List.map_cons,List.map_nil];rw[VaD.enc_eq x,VaD.enc_eq l,gQ a];apply tA;rfl;rfl;exact Tryz.func113;rfl;rfl;simp only[go_sem];rfl;refine tQ ?_;repeat first|with_reducible constructor|with_reducible refine tW rfl ?_|((with_reducible apply tG);(·kernel_rfl);(·(intro _ _;(repeat (apply tOp;(·(intro _;simp only[FL,FO,Nat.add_zero,go_sem];rfl))));rfl));(·(simp only[go_sem];rfl)))
  (with_reducible apply tF);simp only[go_sem];rfl;rfl;refine tQ ?_;repeat first|with_reducible constructor|with_reducible refine tW rfl ?_|((with_reducible apply tG);(·kernel_rfl);(·(intro _ _;(repeat (apply tOp;(·(intro _;simp only[FL,FO,Nat.add_zero,go_sem];rfl))));rfl));(·(simp only[go_sem];rfl)))
  (with_reducible apply tF);simp only[go_sem];rfl;rfl;refine tQ ?_;repeat first|with_reducible constructor|with_reducible refine tW rfl ?_|((with_reducible apply tG);(·kernel_rfl);(·(intro _ _;(repeat (apply tOp;(·(intro _;simp only[FL,FO,Nat.add_zero,go_sem];rfl))));rfl));(·(simp only[go_sem];rfl)))
  (with_reducible apply tF);simp only[go_sem];rfl;rfl;refine tQ ?_;repeat first|with_reducible constructor|with_reducible refine tW rfl ?_|((with_reducible apply tG);(·kernel_rfl);(·(intro _ _;(repeat (apply tOp;(·(intro _;simp only[FL,FO,Nat.add_zero,go_sem];rfl))));rfl));(·(simp only[go_sem];rfl)))
  (with_reducible apply tT);simp only[go_sem];rfl;rfl;refine tQ ?_;repeat first|with_reducible constructor|with_reducible refine tW rfl ?_|((with_reducible apply tG);(·kernel_rfl);(·(intro _ _;(repeat (apply tOp;(·(intro _;simp only[FL,FO,Nat.add_zero,h,bI,clean,flat,List.replicate,List.set_cons_zero,List.set_cons_succ,beq_self_eq_true,cH,go_sem];rfl))));rfl));(·(simp only[go_sem];rfl)))
  exact nW [_] rfl
 |leaf a =>
  intro sto hlo;have h:=hQ [] (.mk [76,101,97,102] 0 []) rfl (by simp [big]) sto (fun i t w h1 _=>by simp at h1) hlo;simp only[List.map_nil,aS,VaD.con,VaD.num,VaD.args] at h;simp only[VaD.enc_mk,TyD.enc_mk,List.map_cons,List.map_nil];rw[gQ a];apply tA;rfl;rfl;exact Tryz.func113;rfl;rfl;simp only[go_sem];rfl;refine tQ ?_;repeat first|with_reducible constructor|with_reducible refine tW rfl ?_|((with_reducible apply tG);(·kernel_rfl);(·(intro _ _;(repeat (apply tOp;(·(intro _;simp only[FL,FO,Nat.add_zero,go_sem];rfl))));rfl));(·(simp only[go_sem];rfl)))
  (with_reducible apply tF);simp only[go_sem];rfl;rfl;refine tQ ?_;repeat first|with_reducible constructor|with_reducible refine tW rfl ?_|((with_reducible apply tG);(·kernel_rfl);(·(intro _ _;(repeat (apply tOp;(·(intro _;simp only[FL,FO,Nat.add_zero,go_sem];rfl))));rfl));(·(simp only[go_sem];rfl)))
  (with_reducible apply tF);simp only[go_sem];rfl;rfl;refine tQ ?_;repeat first|with_reducible constructor|with_reducible refine tW rfl ?_|((with_reducible apply tG);(·kernel_rfl);(·(intro _ _;(repeat (apply tOp;(·(intro _;simp only[FL,FO,Nat.add_zero,go_sem];rfl))));rfl));(·(simp only[go_sem];rfl)))
  (with_reducible apply tF);simp only[go_sem];rfl;rfl;refine tQ ?_;repeat first|with_reducible constructor|with_reducible refine tW rfl ?_|((with_reducible apply tG);(·kernel_rfl);(·(intro _ _;(repeat (apply tOp;(·(intro _;simp only[FL,FO,Nat.add_zero,go_sem];rfl))));rfl));(·(simp only[go_sem];rfl)))
  (with_reducible apply tF);simp only[go_sem];rfl;rfl;refine tQ ?_;repeat first|with_reducible constructor|with_reducible refine tW rfl ?_|((with_reducible apply tG);(·kernel_rfl);(·(intro _ _;(repeat (apply tOp;(·(intro _;simp only[FL,FO,Nat.add_zero,go_sem];rfl))));rfl));(·(simp only[go_sem];rfl)))
  (with_reducible apply tF);simp only[go_sem];rfl;rfl;refine tQ ?_;repeat first|with_reducible constructor|with_reducible refine tW rfl ?_|((with_reducible apply tG);(·kernel_rfl);(·(intro _ _;(repeat (apply tOp;(·(intro _;simp only[FL,FO,Nat.add_zero,go_sem];rfl))));rfl));(·(simp only[go_sem];rfl)))
  (with_reducible apply tT);simp only[go_sem];rfl;rfl;refine tQ ?_;repeat first|with_reducible constructor|with_reducible refine tW rfl ?_|((with_reducible apply tG);(·kernel_rfl);(·(intro _ _;(repeat (apply tOp;(·(intro _;simp only[FL,FO,Nat.add_zero,h,go_sem];rfl))));rfl));(·(simp only[go_sem];rfl)))
  exact nW [_] rfl
 |node a l x r h1 h2 h3 ih1 ih2 ih3 =>
  intro sto hlo
  have h:=hQ [.mk [84,114,101,101] [a],a,.mk [84,114,101,101] [a]] (.mk [78,111,100,101] 0 [l,x,r]) rfl (by simp [big]) sto (fun i t w h1 h2=>by
   match i with
   |0=>cases h1;cases h2;exact ih1
   |1=>cases h1;cases h2;exact ih2
   |2=>cases h1;cases h2;exact ih3
   |i+3=>simp at h1) hlo
  simp only[List.map_cons,List.map_nil,aS,VaD.con,VaD.num,VaD.args,TyD.enc_mk] at h;rw[VaD.enc_eq l,VaD.enc_eq x,VaD.enc_eq r,gQ a] at h;simp only[VaD.enc_mk,TyD.enc_mk,List.map_cons,List.map_nil];rw[VaD.enc_eq l,VaD.enc_eq x,VaD.enc_eq r,gQ a];apply tA;rfl;rfl;exact Tryz.func113;rfl;rfl;simp only[go_sem];rfl;refine tQ ?_;repeat first|with_reducible constructor|with_reducible refine tW rfl ?_|((with_reducible apply tG);(·kernel_rfl);(·(intro _ _;(repeat (apply tOp;(·(intro _;simp only[FL,FO,Nat.add_zero,go_sem];rfl))));rfl));(·(simp only[go_sem];rfl)))
  (with_reducible apply tF);simp only[go_sem];rfl;rfl;refine tQ ?_;repeat first|with_reducible constructor|with_reducible refine tW rfl ?_|((with_reducible apply tG);(·kernel_rfl);(·(intro _ _;(repeat (apply tOp;(·(intro _;simp only[FL,FO,Nat.add_zero,go_sem];rfl))));rfl));(·(simp only[go_sem];rfl)))
  (with_reducible apply tF);simp only[go_sem];rfl;rfl;refine tQ ?_;repeat first|with_reducible constructor|with_reducible refine tW rfl ?_|((with_reducible apply tG);(·kernel_rfl);(·(intro _ _;(repeat (apply tOp;(·(intro _;simp only[FL,FO,Nat.add_zero,go_sem];rfl))));rfl));(·(simp only[go_sem];rfl)))
  (with_reducible apply tF);simp only[go_sem];rfl;rfl;refine tQ ?_;repeat first|with_reducible constructor|with_reducible refine tW rfl ?_|((with_reducible apply tG);(·kernel_rfl);(·(intro _ _;(repeat (apply tOp;(·(intro _;simp only[FL,FO,Nat.add_zero,go_sem];rfl))));rfl));(·(simp only[go_sem];rfl)))
  (with_reducible apply tF);simp only[go_sem];rfl;rfl;refine tQ ?_;repeat first|with_reducible constructor|with_reducible refine tW rfl ?_|((with_reducible apply tG);(·kernel_rfl);(·(intro _ _;(repeat (apply tOp;(·(intro _;simp only[FL,FO,Nat.add_zero,go_sem];rfl))));rfl));(·(simp only[go_sem];rfl)))
  (with_reducible apply tF);simp only[go_sem];rfl;rfl;refine tQ ?_;repeat first|with_reducible constructor|with_reducible refine tW rfl ?_|((with_reducible apply tG);(·kernel_rfl);(·(intro _ _;(repeat (apply tOp;(·(intro _;simp only[FL,FO,Nat.add_zero,go_sem];rfl))));rfl));(·(simp only[go_sem];rfl)))
  (with_reducible apply tT);simp only[go_sem];rfl;rfl;refine tQ ?_;repeat first|with_reducible constructor|with_reducible refine tW rfl ?_|((with_reducible apply tG);(·kernel_rfl);(·(intro _ _;(repeat (apply tOp;(·(intro _;simp only[FL,FO,Nat.add_zero,h,bI,clean,flat,List.replicate,List.set_cons_zero,List.set_cons_succ,beq_self_eq_true,cH,go_sem];rfl))));rfl));(·(simp only[go_sem];rfl)))
  exact nW [_] rfl
 |fin =>
  intro sto hlo;have h:=hQ [] (.mk [69,110,100] 0 []) rfl (by simp [big]) sto (fun i t w h1 _=>by simp at h1) hlo;simp only[List.map_nil,aS,VaD.con,VaD.num,VaD.args] at h;simp only[VaD.enc_mk,TyD.enc_mk,List.map_nil];apply tA;rfl;rfl;exact Tryz.func113;rfl;rfl;simp only[go_sem];rfl;refine tQ ?_;repeat first|with_reducible constructor|with_reducible refine tW rfl ?_|((with_reducible apply tG);(·kernel_rfl);(·(intro _ _;(repeat (apply tOp;(·(intro _;simp only[FL,FO,Nat.add_zero,go_sem];rfl))));rfl));(·(simp only[go_sem];rfl)))
  (with_reducible apply tF);simp only[go_sem];rfl;rfl;refine tQ ?_;repeat first|with_reducible constructor|with_reducible refine tW rfl ?_|((with_reducible apply tG);(·kernel_rfl);(·(intro _ _;(repeat (apply tOp;(·(intro _;simp only[FL,FO,Nat.add_zero,go_sem];rfl))));rfl));(·(simp only[go_sem];rfl)))
  (with_reducible apply tF);simp only[go_sem];rfl;rfl;refine tQ ?_;repeat first|with_reducible constructor|with_reducible refine tW rfl ?_|((with_reducible apply tG);(·kernel_rfl);(·(intro _ _;(repeat (apply tOp;(·(intro _;simp only[FL,FO,Nat.add_zero,go_sem];rfl))));rfl));(·(simp only[go_sem];rfl)))
  (with_reducible apply tF);simp only[go_sem];rfl;rfl;refine tQ ?_;repeat first|with_reducible constructor|with_reducible refine tW rfl ?_|((with_reducible apply tG);(·kernel_rfl);(·(intro _ _;(repeat (apply tOp;(·(intro _;simp only[FL,FO,Nat.add_zero,go_sem];rfl))));rfl));(·(simp only[go_sem];rfl)))
  (with_reducible apply tF);simp only[go_sem];rfl;rfl;refine tQ ?_;repeat first|with_reducible constructor|with_reducible refine tW rfl ?_|((with_reducible apply tG);(·kernel_rfl);(·(intro _ _;(repeat (apply tOp;(·(intro _;simp only[FL,FO,Nat.add_zero,go_sem];rfl))));rfl));(·(simp only[go_sem];rfl)))
  (with_reducible apply tF);simp only[go_sem];rfl;rfl;refine tQ ?_;repeat first|with_reducible constructor|with_reducible refine tW rfl ?_|((with_reducible apply tG);(·kernel_rfl);(·(intro _ _;(repeat (apply tOp;(·(intro _;simp only[FL,FO,Nat.add_zero,go_sem];rfl))));rfl));(·(simp only[go_sem];rfl)))
  (with_reducible apply tF);simp only[go_sem];rfl;rfl;refine tQ ?_;repeat first|with_reducible constructor|with_reducible refine tW rfl ?_|((with_reducible apply tG);(·kernel_rfl);(·(intro _ _;(repeat (apply tOp;(·(intro _;simp only[FL,FO,Nat.add_zero,go_sem];rfl))));rfl));(·(simp only[go_sem];rfl)))
  (with_reducible apply tT);simp only[go_sem];rfl;rfl;refine tQ ?_;repeat first|with_reducible constructor|with_reducible refine tW rfl ?_|((with_reducible apply tG);(·kernel_rfl);(·(intro _ _;(repeat (apply tOp;(·(intro _;simp only[FL,FO,Nat.add_zero,h,go_sem];rfl))));rfl));(·(simp only[go_sem];rfl)))
  exact nW [_] rfl
 |item x l h1 h2 ih1 ih2 =>
  intro sto hlo
  have h:=hQ [.mk [73,110,116] [],.mk [73,110,116,115] []] (.mk [73,116,101,109] 0 [x,l]) rfl (by simp [big]) sto (fun i t w h1 h2=>by
   match i with
   |0=>cases h1;cases h2;exact ih1
   |1=>cases h1;cases h2;exact ih2
   |i+2=>simp at h1) hlo
  simp only[List.map_cons,List.map_nil,aS,VaD.con,VaD.num,VaD.args,TyD.enc_mk] at h;rw[VaD.enc_eq x,VaD.enc_eq l] at h;simp only[VaD.enc_mk,TyD.enc_mk,List.map_cons,List.map_nil];rw[VaD.enc_eq x,VaD.enc_eq l];apply tA;rfl;rfl;exact Tryz.func113;rfl;rfl;simp only[go_sem];rfl;refine tQ ?_;repeat first|with_reducible constructor|with_reducible refine tW rfl ?_|((with_reducible apply tG);(·kernel_rfl);(·(intro _ _;(repeat (apply tOp;(·(intro _;simp only[FL,FO,Nat.add_zero,go_sem];rfl))));rfl));(·(simp only[go_sem];rfl)))
  (with_reducible apply tF);simp only[go_sem];rfl;rfl;refine tQ ?_;repeat first|with_reducible constructor|with_reducible refine tW rfl ?_|((with_reducible apply tG);(·kernel_rfl);(·(intro _ _;(repeat (apply tOp;(·(intro _;simp only[FL,FO,Nat.add_zero,go_sem];rfl))));rfl));(·(simp only[go_sem];rfl)))
  (with_reducible apply tF);simp only[go_sem];rfl;rfl;refine tQ ?_;repeat first|with_reducible constructor|with_reducible refine tW rfl ?_|((with_reducible apply tG);(·kernel_rfl);(·(intro _ _;(repeat (apply tOp;(·(intro _;simp only[FL,FO,Nat.add_zero,go_sem];rfl))));rfl));(·(simp only[go_sem];rfl)))
  (with_reducible apply tF);simp only[go_sem];rfl;rfl;refine tQ ?_;repeat first|with_reducible constructor|with_reducible refine tW rfl ?_|((with_reducible apply tG);(·kernel_rfl);(·(intro _ _;(repeat (apply tOp;(·(intro _;simp only[FL,FO,Nat.add_zero,go_sem];rfl))));rfl));(·(simp only[go_sem];rfl)))
  (with_reducible apply tF);simp only[go_sem];rfl;rfl;refine tQ ?_;repeat first|with_reducible constructor|with_reducible refine tW rfl ?_|((with_reducible apply tG);(·kernel_rfl);(·(intro _ _;(repeat (apply tOp;(·(intro _;simp only[FL,FO,Nat.add_zero,go_sem];rfl))));rfl));(·(simp only[go_sem];rfl)))
  (with_reducible apply tF);simp only[go_sem];rfl;rfl;refine tQ ?_;repeat first|with_reducible constructor|with_reducible refine tW rfl ?_|((with_reducible apply tG);(·kernel_rfl);(·(intro _ _;(repeat (apply tOp;(·(intro _;simp only[FL,FO,Nat.add_zero,go_sem];rfl))));rfl));(·(simp only[go_sem];rfl)))
  (with_reducible apply tF);simp only[go_sem];rfl;rfl;refine tQ ?_;repeat first|with_reducible constructor|with_reducible refine tW rfl ?_|((with_reducible apply tG);(·kernel_rfl);(·(intro _ _;(repeat (apply tOp;(·(intro _;simp only[FL,FO,Nat.add_zero,go_sem];rfl))));rfl));(·(simp only[go_sem];rfl)))
  (with_reducible apply tT);simp only[go_sem];rfl;rfl;refine tQ ?_;repeat first|with_reducible constructor|with_reducible refine tW rfl ?_|((with_reducible apply tG);(·kernel_rfl);(·(intro _ _;(repeat (apply tOp;(·(intro _;simp only[FL,FO,Nat.add_zero,h,bI,clean,flat,List.replicate,List.set_cons_zero,List.set_cons_succ,beq_self_eq_true,cH,go_sem];rfl))));rfl));(·(simp only[go_sem];rfl)))
  exact nW [_] rfl
 |var v =>
  intro sto hlo;rw[VaD.enc_eq v,TyD.enc_mk,List.map_nil];apply tA;rfl;rfl;exact Tryz.func113;rfl;rfl;simp only[go_sem];rfl;refine tQ ?_;repeat first|with_reducible constructor|with_reducible refine tW rfl ?_|((with_reducible apply tG);(·kernel_rfl);(·(intro _ _;(repeat (apply tOp;(·(intro _;simp only[FL,FO,Nat.add_zero,go_sem];rfl))));rfl));(·(simp only[go_sem];rfl)))
  (with_reducible apply tF);simp only[go_sem];rfl;rfl;refine tQ ?_;repeat first|with_reducible constructor|with_reducible refine tW rfl ?_|((with_reducible apply tG);(·kernel_rfl);(·(intro _ _;(repeat (apply tOp;(·(intro _;simp only[FL,FO,Nat.add_zero,go_sem];rfl))));rfl));(·(simp only[go_sem];rfl)))
  (with_reducible apply tF);simp only[go_sem];rfl;rfl;refine tQ ?_;repeat first|with_reducible constructor|with_reducible refine tW rfl ?_|((with_reducible apply tG);(·kernel_rfl);(·(intro _ _;(repeat (apply tOp;(·(intro _;simp only[FL,FO,Nat.add_zero,go_sem];rfl))));rfl));(·(simp only[go_sem];rfl)))
  (with_reducible apply tF);simp only[go_sem];rfl;rfl;refine tQ ?_;repeat first|with_reducible constructor|with_reducible refine tW rfl ?_|((with_reducible apply tG);(·kernel_rfl);(·(intro _ _;(repeat (apply tOp;(·(intro _;simp only[FL,FO,Nat.add_zero,go_sem];rfl))));rfl));(·(simp only[go_sem];rfl)))
  (with_reducible apply tF);simp only[go_sem];rfl;rfl;refine tQ ?_;repeat first|with_reducible constructor|with_reducible refine tW rfl ?_|((with_reducible apply tG);(·kernel_rfl);(·(intro _ _;(repeat (apply tOp;(·(intro _;simp only[FL,FO,Nat.add_zero,go_sem];rfl))));rfl));(·(simp only[go_sem];rfl)))
  (with_reducible apply tF);simp only[go_sem];rfl;rfl;refine tQ ?_;repeat first|with_reducible constructor|with_reducible refine tW rfl ?_|((with_reducible apply tG);(·kernel_rfl);(·(intro _ _;(repeat (apply tOp;(·(intro _;simp only[FL,FO,Nat.add_zero,go_sem];rfl))));rfl));(·(simp only[go_sem];rfl)))
  (with_reducible apply tF);simp only[go_sem];rfl;rfl;refine tQ ?_;repeat first|with_reducible constructor|with_reducible refine tW rfl ?_|((with_reducible apply tG);(·kernel_rfl);(·(intro _ _;(repeat (apply tOp;(·(intro _;simp only[FL,FO,Nat.add_zero,go_sem];rfl))));rfl));(·(simp only[go_sem];rfl)))
  (with_reducible apply tF);simp only[go_sem];rfl;rfl;refine tQ ?_;repeat first|with_reducible constructor|with_reducible refine tW rfl ?_|((with_reducible apply tG);(·kernel_rfl);(·(intro _ _;(repeat (apply tOp;(·(intro _;simp only[FL,FO,Nat.add_zero,go_sem];rfl))));rfl));(·(simp only[go_sem];rfl)))
  exact nW [_] rfl
end Go.Proofs.YtdkkaldimefljaaGreatDoor
end
