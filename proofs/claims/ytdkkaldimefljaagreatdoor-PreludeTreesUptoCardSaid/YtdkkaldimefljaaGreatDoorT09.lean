import Derived.Test.YtdkkaldimefljaaGreatDoorT08
import Derived.Test.YtdkkaldimefljaaGreatDoorT00
import Derived.Test.YtdkkaldimefljaaGreatDoorA12
import Derived.Test.YtdkkaldimefljaaGreatDoorC16
import Derived.Recover
import Derived.WalkKit
set_option linter.all false
section
namespace Go.Proofs.YtdkkaldimefljaaGreatDoor
open Go.AM
variable [Aps]
set_option maxRecDepth 100000
set_option maxHeartbeats 16000000
theorem c36 (nm:List UInt8) (t:TyD) (h:r6 nm=some t) (sto:Sto):CF (.fn 36) [.val (.str nm)] sto=some (.ret (.tup [t.enc,.bool true]),sto):=by
 refine fnP (r:=.ret (.tup [t.enc,.bool true])) ?_ ?_
 ·show some ((r6 nm).map fun t=>ARes.ret (.tup [t.enc,.bool true]))=_
  rw[h];rfl
 ·rw[gQ t];rfl
theorem c41 (nm:List UInt8) (t:TyD) (h:r6 nm=some t) (sto:Sto):CF (.fn 41) [.val (.str nm)] sto=some (.ret (.val (.bool true)),sto):=by
 refine fnP (r:=.ret (.val (.bool true))) ?_ rfl;show some ((r6 nm).map fun _=>ARes.ret (.val (.bool true)))=_;rw[h];rfl
theorem c26 (nm:List UInt8) (l:List TyD) (r:TyD) (ht:r6 nm=some (qP l r)) (hr:(tyName r==[45,62])=false) (args:List VaD) (hlen:l.length=args.length) (hb:l.length+1 < big) (hv:∀ y∈args,y.valid=true∧y.size < big∧y.cnt≤4000)
  (hh:∀ (i:Nat) (t:TyD) (v:VaD),l[i]?=some t→args[i]?=some v→fY t v) (sto:Sto) (hlo:sto.lo≤sto.objs.length):CF (.fn 26) [.val (.str nm),.val (.slice (args.map VaD.enc))] sto=some (.ret (.val (.int .i64 0)),sto):=by
 have h36:=c36 nm _ ht sto;have h41:=c41 nm _ ht sto;have h42:=c42 l r hr hb sto;have h43:=c43 args (by omega) hv sto hlo;have h45:=c45 l args hlen (by omega) sto (fun i t v h1 h2=>aNM t v (hh i t v h1 h2) sto hlo);have hne:(((l.length:Nat):Int) != ((args.length:Nat):Int))=false:=by simp [hlen]
 rw[gQ (qP l r)] at h36 h42;apply tA;rfl;rfl;exact Tryz.func26;rfl;rfl;simp only[go_sem];rfl;refine tQ ?_;repeat first|with_reducible constructor|with_reducible refine tW rfl ?_|((with_reducible apply tG);(·kernel_rfl);(·(intro _ _;(repeat (apply tOp;(·(intro _;simp only[h41,go_sem];rfl))));rfl));(·(simp only[go_sem];rfl)))
 (with_reducible apply tF);simp only[go_sem];rfl;rfl;refine tQ ?_;repeat first|with_reducible constructor|with_reducible refine tW rfl ?_|((with_reducible apply tG);(·kernel_rfl);(·(intro _ _;(repeat (apply tOp;(·(intro _;simp only[h36,h42,h43,h45,hne,List.length_map,go_sem];rfl))));rfl));(·(simp only[go_sem];rfl)))
 (with_reducible apply tF);simp only[go_sem];rfl;rfl;refine tQ ?_;repeat first|with_reducible constructor|with_reducible refine tW rfl ?_|((with_reducible apply tG);(·kernel_rfl);(·(intro _ _;(repeat (apply tOp;(·(intro _;simp only[go_sem];rfl))));rfl));(·(simp only[go_sem];rfl)))
 exact dC rfl
theorem c10 (nm:List UInt8) (xs:List AVal) (v:VaD) (sto:Sto) (h18:CF (.fn 18) [.val (.str nm),.val (.slice xs)] sto=some (.ret (.tup [v.enc,.int .i64 0]),sto)):CF (.fn 10) [.val (.str nm),.val (.slice xs)] sto=some (.ret (.val v.enc),sto):=by
 rw[VaD.enc_eq v] at h18 ⊢;apply tA;rfl;rfl;exact Tryz.func10;rfl;rfl;simp only[go_sem];rfl;refine tQ ?_;repeat first|with_reducible constructor|with_reducible refine tW rfl ?_|((with_reducible apply tG);(·kernel_rfl);(·(intro _ _;(repeat (apply tOp;(·(intro _;simp only[h18,go_sem];rfl))));rfl));(·(simp only[go_sem];rfl)))
 (with_reducible apply tF);simp only[go_sem];rfl;rfl;refine tQ ?_;repeat first|with_reducible constructor|with_reducible refine tW rfl ?_|((with_reducible apply tG);(·kernel_rfl);(·(intro _ _;(repeat (apply tOp;(·(intro _;simp only[go_sem];rfl))));rfl));(·(simp only[go_sem];rfl)))
 exact dC rfl
end Go.Proofs.YtdkkaldimefljaaGreatDoor
end
section
namespace Go.Proofs.YtdkkaldimefljaaGreatDoor
open Go.AM
theorem Tr.mem_put (n:Int):∀ t:Tr,(t.put n).mem n=true
 |.leaf=>by simp [Tr.put,Tr.mem]
 |.node l x r=>by
  simp only[Tr.put];cases h1:decide (n < x) with
  |true=>simp only[cond_true,Tr.mem,h1];exact Tr.mem_put n l
  |false =>
   cases h2:decide (x < n) with
   |true=>simp only[cond_false,cond_true,Tr.mem,h1,h2];exact Tr.mem_put n r
   |false=>simp only[cond_false,Tr.mem,h1,h2]
theorem Tr.put_eq (n:Int):∀ t:Tr,t.put n=t↔t.mem n=true
 |.leaf=>by simp [Tr.put,Tr.mem]
 |.node l x r=>by
  simp only[Tr.put,Tr.mem];cases h1:decide (n < x) with
  |true=>simp only[cond_true,Tr.node.injEq,and_true];exact Tr.put_eq n l
  |false =>
   cases h2:decide (x < n) with
   |true=>simp only[cond_false,cond_true,Tr.node.injEq,true_and];exact Tr.put_eq n r
   |false=>simp only[cond_false]
theorem vX {a b:Int} (h:b9 a=b9 b):a=b:=by simpa [b9] using h
theorem Tr.val_inj:∀ {a b:Tr},a.val=b.val→a=b
 |.leaf,.leaf,_=>rfl
 |.leaf,.node _ _ _,h=>by simp [Tr.val] at h
 |.node _ _ _,.leaf,h=>by simp [Tr.val] at h
 |.node l x r,.node l' x' r',h=>by
  simp only[Tr.val,VaD.mk.injEq,List.cons.injEq,and_true,true_and] at h;rw[Tr.val_inj h.1,vX h.2.1,Tr.val_inj h.2.2]
theorem yD:∀ {a b:List VaD},aW a=aW b→a=b
 |[],[],_=>rfl
 |[],_::_,h=>by simp [aW,nilS,tC] at h
 |_::_,[],h=>by simp [aW,nilS,tC] at h
 |x::a,y::b,h=>by
  simp only[aW,VaD.mk.injEq,List.cons.injEq,and_true,true_and] at h;rw[h.1,yD h.2]
theorem uQ:∀ {a b:List VaD},bJ a=bJ b→a=b
 |[],[],_=>rfl
 |[],_::_,h=>by simp [bJ] at h
 |_::_,[],h=>by simp [bJ] at h
 |x::a,y::b,h=>by
  simp only[bJ,VaD.mk.injEq,List.cons.injEq,and_true,true_and] at h;rw[h.1,uQ h.2]
theorem uR:∀ {a b:List Int},a.map b9=b.map b9→a=b
 |[],[],_=>rfl
 |[],_::_,h=>by simp at h
 |_::_,[],h=>by simp at h
 |x::a,y::b,h=>by
  simp only[List.map_cons,List.cons.injEq] at h;rw[vX h.1,uR h.2]
def Tr.bst:Tr→Prop
 |.leaf=>True
 |.node l x r=>l.bst∧r.bst∧(∀ y∈l.flat,y < x)∧∀ y∈r.flat,x < y
theorem Tr.mem_flat (n:Int):∀ t:Tr,t.bst→(t.mem n=true↔n∈t.flat)
 |.leaf,_=>by simp [Tr.mem,Tr.flat]
 |.node l x r,h=>by
  obtain ⟨h1,h2,h3,h4⟩:=h;have il:=Tr.mem_flat n l h1;have ir:=Tr.mem_flat n r h2;simp only[Tr.mem,Tr.flat,List.mem_append,List.mem_cons];cases c1:decide (n < x) with
  |true =>
   simp only[cond_true,il];have c1':n < x:=by simpa using c1
   refine ⟨.inl,fun h=>?_⟩;rcases h with h|h|h
   ·exact h
   ·omega
   ·have:=h4 n h;omega
  |false =>
   have c1':¬ n < x:=by simpa using c1
   cases c2:decide (x < n) with
   |true =>
    have c2':x < n:=by simpa using c2
    simp only[cond_false,cond_true,ir];refine ⟨fun h=>.inr (.inr h),fun h=>?_⟩;rcases h with h|h|h
    ·have:=h3 n h;omega
    ·omega
    ·exact h
   |false =>
    have c2':¬ x < n:=by simpa using c2
    simp only[cond_false,true_iff];exact .inr (.inl (by omega))
theorem Tr.flat_put (n y:Int):∀ t:Tr,y∈(t.put n).flat↔y=n∨y∈t.flat
 |.leaf=>by simp [Tr.put,Tr.flat]
 |.node l x r=>by
  have il:=Tr.flat_put n y l;have ir:=Tr.flat_put n y r;simp only[Tr.put];cases c1:decide (n < x) with
  |true =>
   simp only[cond_true,Tr.flat,List.mem_append,List.mem_cons,il];constructor
   ·rintro ((h|h)|h) <;> simp [h]
   ·rintro (h|h|h) <;> simp [h]
  |false =>
   cases c2:decide (x < n) with
   |true =>
    simp only[cond_false,cond_true,Tr.flat,List.mem_append,List.mem_cons,ir];constructor
    ·rintro (h|h|h|h) <;> simp [h]
    ·rintro (h|h|h|h) <;> simp [h]
   |false =>
    have h1:¬ n < x:=by simpa using c1
    have h2:¬ x < n:=by simpa using c2
    have:x=n:=by omega
    subst this;simp only[cond_false,Tr.flat,List.mem_append,List.mem_cons];constructor
    ·intro h;exact .inr h
    ·rintro (h|h)
     ·exact .inr (.inl h)
     ·exact h
theorem Tr.bst_put (n:Int):∀ t:Tr,t.bst→(t.put n).bst
 |.leaf,_=>by simp [Tr.put,Tr.bst,Tr.flat]
 |.node l x r,h=>by
  obtain ⟨h1,h2,h3,h4⟩:=h;simp only[Tr.put];cases c1:decide (n < x) with
  |true =>
   have c1':n < x:=by simpa using c1
   simp only[cond_true];refine ⟨Tr.bst_put n l h1,h2,fun y hy=>?_,h4⟩;rcases (Tr.flat_put n y l).1 hy with h|h
   ·omega
   ·exact h3 y h
  |false =>
   cases c2:decide (x < n) with
   |true =>
    have c2':x < n:=by simpa using c2
    simp only[cond_false,cond_true];refine ⟨h1,Tr.bst_put n r h2,h3,fun y hy=>?_⟩;rcases (Tr.flat_put n y r).1 hy with h|h
    ·omega
    ·exact h4 y h
   |false=>simp only[cond_false];exact ⟨h1,h2,h3,h4⟩
theorem xV:∀ (l:List Int) (t:Tr),t.bst→(l.foldl (fun t n=>t.put n) t).bst∧∀ y,y∈(l.foldl (fun t n=>t.put n) t).flat↔y∈l∨y∈t.flat
 |[],t,h=>⟨h,fun y=>by simp⟩
 |n::l,t,h=>by
  obtain ⟨a,b⟩:=xV l (t.put n) (Tr.bst_put n t h);refine ⟨a,fun y=>?_⟩;simp only[List.foldl_cons,b y,Tr.flat_put,List.mem_cons];constructor
  ·rintro (h|h|h) <;> simp [h]
  ·rintro ((h|h)|h) <;> simp [h]
theorem vW (n:Int) (l:List Int):(bY l).mem n=decide (0 < eC n l):=by
 obtain ⟨a,b⟩:=xV l .leaf (by simp [Tr.bst])
 have h1:(bY l).mem n=true↔n∈l:=by
  rw[show bY l=l.foldl (fun t n=>t.put n) .leaf from rfl,Tr.mem_flat n _ a,b n];simp [Tr.flat]
 have h2:0 < eC n l↔n∈l:=by simp [eC,List.countP_pos_iff]
 cases hm:(bY l).mem n with
 |true=>simp [h2.2 (h1.1 hm)]
 |false =>
  have:¬ n∈l:=fun h=>by rw[h1.2 h] at hm;cases hm
  simp [h2,this]
theorem Tr.nodes_put (n:Int):∀ t:Tr,(t.put n).nodes≤t.nodes+1
 |.leaf=>by simp [Tr.put,Tr.nodes]
 |.node l x r=>by
  have:=Tr.nodes_put n l
  have:=Tr.nodes_put n r
  simp only[Tr.put];cases decide (n < x) <;> cases decide (x < n) <;> simp only[cond_true,cond_false,Tr.nodes] <;> omega
theorem lJ:∀ (l:List Int) (t:Tr),(l.foldl (fun t n=>t.put n) t).nodes≤t.nodes+l.length
 |[],t=>by simp
 |n::l,t=>by
  have h1:=lJ l (t.put n);have h2:=Tr.nodes_put n t;simp only[List.foldl_cons,List.length_cons];omega
theorem pZ (l:List Int):(bY l).nodes≤l.length:=by
 have:=lJ l .leaf
 simpa [Tr.nodes,bY] using this
theorem Tr.depth_nodes:∀ t:Tr,t.depth≤t.nodes
 |.leaf=>Nat.le_refl _
 |.node l x r=>by
  have:=Tr.depth_nodes l
  have:=Tr.depth_nodes r
  simp only[Tr.depth,Tr.nodes];omega
theorem Tr.depth_zero:∀ t:Tr,t.depth=0↔t=.leaf
 |.leaf=>by simp [Tr.depth]
 |.node l x r=>by simp [Tr.depth]
theorem ib (l:List Int):(bY l).depth=0↔l=[]:=by
 rw[Tr.depth_zero];constructor
 ·intro h
  cases l with
  |nil=>rfl
  |cons a l =>
   have h1:=vW a (a::l);rw[h] at h1
   have:0 < eC a (a::l):=by simp [eC,List.countP_cons]
   simp [Tr.mem,this] at h1
 ·rintro rfl;rfl
end Go.Proofs.YtdkkaldimefljaaGreatDoor
end
section
namespace Go.Proofs.YtdkkaldimefljaaGreatDoor
open Go.AM
variable [Aps]
set_option maxRecDepth 100000
set_option maxHeartbeats 32000000
inductive AppR:List UInt8→List VaD→VaD→Prop
 |tree (l:List Int) (h:l.length≤30):AppR [116,114,101,101] [aW (l.map b9)] (bY l).val
 |tlist (t:Tr) (h:t.nodes≤30):AppR [116,108,105,115,116] [t.val] (aW (t.flat.map b9))
 |tmember (n:Int) (t:Tr) (h:t.nodes≤31):AppR [116,109,101,109,98,101,114] [b9 n,t.val] (eB (t.mem n))
 |tsize (t:Tr) (h:t.nodes≤30):AppR [116,115,105,122,101] [t.val] (b9 (t.nodes:Nat))
 |length (l:List Int) (h:l.length≤30):AppR [108,101,110,103,116,104] [aW (l.map b9)] (b9 (l.length:Nat))
 |tinsert (n:Int) (t:Tr) (h:t.nodes≤30):AppR [116,105,110,115,101,114,116] [b9 n,t.val] (t.put n).val
 |tdepth (t:Tr) (h:t.nodes≤30):AppR [116,100,101,112,116,104] [t.val] (b9 (t.depth:Nat))
 |items (l:List Int) (h:l.length≤30):AppR [105,116,101,109,115] [aW (l.map b9)] (bJ (l.map b9))
 |list (l:List Int) (h:l.length≤30):AppR [108,105,115,116] [bJ (l.map b9)] (aW (l.map b9))
theorem zg (b:Bool):(eB b).enc=.agg [.str (bif b then [84,114,117,101] else [70,97,108,115,101]),.int .i64 0,.slice []]:=by simp only[eB,VaD.enc_mk,List.map_nil]
theorem VaD.sizes_ints:∀ l:List Int,VaD.sizes (l.map b9)=2 * l.length
 |[]=>rfl
 |n::l=>by
  have:=VaD.sizes_ints l
  simp only[List.map_cons,VaD.sizes,b9,VaD.size,List.length_cons,List.length_nil,this];omega
theorem Tr.size_val:∀ t:Tr,t.val.size≤16 * t.nodes+5
 |.leaf=>by simp [Tr.val,VaD.size,VaD.sizes,Tr.nodes]
 |.node l x r=>by
  have:=Tr.size_val l
  have:=Tr.size_val r
  simp only[Tr.val,VaD.size,VaD.sizes,b9,List.length_cons,List.length_nil,Tr.nodes];omega
theorem c3 (l:List Int) (n:Int) (hl:l.length < big) (sto:Sto) (hlo:sto.lo≤sto.objs.length)
  (H:∀ nm vs r,AppR nm vs r→∀ S:Sto,CF (.fn 18) [.val (.str nm),.val (.slice (vs.map VaD.enc))] S=some (.ret (.tup [r.enc,.int .i64 0]),S)) :
  CF (.fn 3) [.val (.slice (l.map iH)),.val (.int .i64 n)] sto=some (.ret (.val (.bool true)),sto):=by
 have h6:=c6 sto;have h7:=c7 l hl sto;generalize hx:l.take 30=x at h7;have hx30:x.length≤30:=by rw[←hx,List.length_take];omega
 have h9:=c9 x (by simp only[big];omega) sto;have h8:=c8 (x.map b9) sto (by rw[VaD.sizes_ints,List.length_map];simp only[big];omega) hlo;rw[←ml] at h8;have hnod:=pZ x;have hput:=Tr.nodes_put n (bY x);have hfl:=gY (bY x);have hmem:=vW n x;have a1:=c10 _ _ _ sto (H _ _ _ (.tree x hx30) sto);have a2:=c10 _ _ _ sto (H _ _ _ (.tlist (bY x) (by omega)) sto);have a3:=c10 _ _ _ sto (H _ _ _ (.tmember n (bY x) (by omega)) sto);have a4:=c10 _ _ _ sto (H _ _ _ (.tsize (bY x) (by omega)) sto);have a5:=c10 _ _ _ sto (H _ _ _ (.length (bY x).flat (by omega)) sto);have a6:=c10 _ _ _ sto (H _ _ _ (.tinsert n (bY x) (by omega)) sto);have a7:=c10 _ _ _ sto (H _ _ _ (.tmember n ((bY x).put n) (by omega)) sto);have a8:=c10 _ _ _ sto (H _ _ _ (.tdepth (bY x) (by omega)) sto);have a9:=c10 _ _ _ sto (H _ _ _ (.items x hx30) sto);have a10:=c10 _ _ _ sto (H _ _ _ (.list x hx30) sto);have h11:=c11 x n (by simp only[big];omega) sto;have s1:=Tr.size_val (bY x);have s2:=Tr.size_val ((bY x).put n);have s3:=oI (x.map b9);rw[VaD.sizes_ints,List.length_map] at s3;have h12a:=c12 ((bY x).put n).val (bY x).val sto (by simp only[big];omega) (by simp only[big];omega);have h12b:=c12 (aW (x.map b9)) (aW (x.map b9)) sto (by simp only[big];omega) (by simp only[big];omega);rw[(VaD.alike_iff _ _).2 rfl] at h12b
 have hal:((bY x).put n).val.alike (bY x).val=(bY x).mem n:=by
  rw[Bool.eq_iff_iff,VaD.alike_iff,←Tr.put_eq];exact ⟨fun h=>Tr.val_inj h,fun h=>by rw[h]⟩
 rw[hal] at h12a;rw[Tr.mem_put] at a7;have e1:(((bY x).nodes:Nat):Int)=((((bY x).flat.length:Nat)):Int):=by rw[hfl]
 rw[e1] at a4;have e3:decide (((eC n x:Nat):Int) > 0)=(bY x).mem n:=by rw[hmem];simp
 have hd1:=Tr.depth_nodes (bY x);have e4:decide ((((bY x).depth:Nat):Int)≤((x.length:Nat):Int))=true:=by simp;omega
 have e5:((((x.length:Nat):Int)==0)==((((bY x).depth:Nat):Int)==0))=true:=by
  have:=ib x
  cases x with
  |nil=>rfl
  |cons a x =>
   have h1:¬ (bY (a::x)).depth=0:=fun h=>by have:=this.1 h;cases this
   have h2:((((a::x).length:Nat):Int)==0)=false:=by simp;omega
   have h3:((((bY (a::x)).depth:Nat):Int)==0)=false:=by simp;omega
   rw[h2,h3];rfl
 clear hnod hput hfl hmem s1 s2 s3 hal hd1 H e1;generalize aW (x.map b9)=L at *;generalize aW ((bY x).flat.map b9)=M at *;generalize bJ (x.map b9)=V at *;generalize ((bY x).put n).val=U at *;generalize (bY x).val=T at *;simp only[List.map_cons,List.map_nil,dN,zg,cond_true] at a1 a2 a3 a4 a5 a6 a7 a8 a9 a10;rw[VaD.enc_eq L] at h8 a1 a9 a10 h12b;rw[VaD.enc_eq T] at a1 a2 a3 a4 a6 a8 h12a;rw[VaD.enc_eq M] at a2 a5;rw[VaD.enc_eq U] at a6 a7 h12a;rw[VaD.enc_eq V] at a9 a10;cases hm:(bY x).mem n with
 |true =>
  rw[hm] at h12a e3;simp only[hm,cond_true] at a3;apply tA;rfl;rfl;exact Tryz.func3;rfl;rfl;simp only[go_sem];rfl;refine tQ ?_;repeat first|with_reducible constructor|with_reducible refine tW rfl ?_|((with_reducible apply tG);(·kernel_rfl);(·(intro _ _;(repeat (apply tOp;(·(intro _;simp only[h6,h7,h9,h8,a1,a2,a3,a4,a5,a6,a7,a8,a9,a10,h11,h12a,h12b,e3,e4,e5,bne_self_eq_false,beq_self_eq_true,List.length_map,bI,clean,flat,List.replicate,List.set_cons_zero,List.set_cons_succ,go_sem];rfl))));rfl));(·(simp only[go_sem];rfl)))
  (with_reducible apply tF);simp only[go_sem];rfl;rfl;refine tQ ?_;repeat first|with_reducible constructor|with_reducible refine tW rfl ?_|((with_reducible apply tG);(·kernel_rfl);(·(intro _ _;(repeat (apply tOp;(·(intro _;simp only[h6,h7,h9,h8,a1,a2,a3,a4,a5,a6,a7,a8,a9,a10,h11,h12a,h12b,e3,e4,e5,bne_self_eq_false,beq_self_eq_true,List.length_map,bI,clean,flat,List.replicate,List.set_cons_zero,List.set_cons_succ,go_sem];rfl))));rfl));(·(simp only[go_sem];rfl)))
  (with_reducible apply tF);simp only[go_sem];rfl;rfl;refine tQ ?_;repeat first|with_reducible constructor|with_reducible refine tW rfl ?_|((with_reducible apply tG);(·kernel_rfl);(·(intro _ _;(repeat (apply tOp;(·(intro _;simp only[h6,h7,h9,h8,a1,a2,a3,a4,a5,a6,a7,a8,a9,a10,h11,h12a,h12b,e3,e4,e5,bne_self_eq_false,beq_self_eq_true,List.length_map,bI,clean,flat,List.replicate,List.set_cons_zero,List.set_cons_succ,go_sem];rfl))));rfl));(·(simp only[go_sem];rfl)))
  exact dC rfl
 |false =>
  rw[hm] at h12a e3;simp only[hm,cond_false] at a3;apply tA;rfl;rfl;exact Tryz.func3;rfl;rfl;simp only[go_sem];rfl;refine tQ ?_;repeat first|with_reducible constructor|with_reducible refine tW rfl ?_|((with_reducible apply tG);(·kernel_rfl);(·(intro _ _;(repeat (apply tOp;(·(intro _;simp only[h6,h7,h9,h8,a1,a2,a3,a4,a5,a6,a7,a8,a9,a10,h11,h12a,h12b,e3,e4,e5,bne_self_eq_false,beq_self_eq_true,List.length_map,bI,clean,flat,List.replicate,List.set_cons_zero,List.set_cons_succ,go_sem];rfl))));rfl));(·(simp only[go_sem];rfl)))
  (with_reducible apply tF);simp only[go_sem];rfl;rfl;refine tQ ?_;repeat first|with_reducible constructor|with_reducible refine tW rfl ?_|((with_reducible apply tG);(·kernel_rfl);(·(intro _ _;(repeat (apply tOp;(·(intro _;simp only[h6,h7,h9,h8,a1,a2,a3,a4,a5,a6,a7,a8,a9,a10,h11,h12a,h12b,e3,e4,e5,bne_self_eq_false,beq_self_eq_true,List.length_map,bI,clean,flat,List.replicate,List.set_cons_zero,List.set_cons_succ,go_sem];rfl))));rfl));(·(simp only[go_sem];rfl)))
  (with_reducible apply tF);simp only[go_sem];rfl;rfl;refine tQ ?_;repeat first|with_reducible constructor|with_reducible refine tW rfl ?_|((with_reducible apply tG);(·kernel_rfl);(·(intro _ _;(repeat (apply tOp;(·(intro _;simp only[h6,h7,h9,h8,a1,a2,a3,a4,a5,a6,a7,a8,a9,a10,h11,h12a,h12b,e3,e4,e5,bne_self_eq_false,beq_self_eq_true,List.length_map,bI,clean,flat,List.replicate,List.set_cons_zero,List.set_cons_succ,go_sem];rfl))));rfl));(·(simp only[go_sem];rfl)))
  exact dC rfl
end Go.Proofs.YtdkkaldimefljaaGreatDoor
end
section
namespace Go.AM
variable {P:Program} {ans:FuncId→Ann} {an:Ann} {w w':World} {B0:Nat} {Ψ Ψ':HT} {ρ:List Nat} {ow:Own} {tmps:Array Value} {fid:FuncId} {st:St}
theorem Rel.fr {E:Nat→Slot} {objs:List AObj} (h:Rel P ans B0 w Ψ ρ ow an E tmps objs) (hF:Fr w Ψ (fun _=>none) w' Ψ' (fun _=>none)) (hw:WSat Ψ' w'):Rel P ans B0 w' Ψ' ρ ow an E tmps objs:=by
 have same:∀ kk i,Same w Ψ ow w' Ψ' ow kk i kk i:=fun kk i b s hb=>by
  have hlt:=h.lt b (by simp [hb])
  have:=hF.keep b hlt rfl
  exact ⟨hb,this.1,fun o ho=>by rw[this.2 o];exact ho⟩
 exact ⟨h.size,hw,fun u=>(h.slots u).mono hF.le (aG _) (same false u) (fun _ _ _=>rfl),h.refs,h.boxes,h.objs.mono hF.le fun i _=>same true i,fun b hb=>Nat.lt_of_lt_of_le (h.lt b hb) hF.size,Nat.le_trans h.base hF.size,h.hi⟩
theorem At.fr (h:At P ans fid B0 w Ψ ρ ow st tmps) (hF:Fr w Ψ (fun _=>none) w' Ψ' (fun _=>none)) (hw:WSat Ψ' w'):At P ans fid B0 w' Ψ' ρ ow st tmps:=⟨h.rel.fr hF hw,h.nr,h.lo⟩
theorem Fr.any {ow:Own} (hF:Fr w Ψ (fun _=>none) w' Ψ' (fun _=>none)):Fr w Ψ ow w' Ψ' ow:=⟨hF.le,hF.size,fun b hb _=>hF.keep b hb rfl,fun _ hb=>.inl hb,hF.os,hF.tape,hF.output⟩
end Go.AM
namespace Go.Proofs.YtdkkaldimefljaaGreatDoor
open Go.AM Go.RowKit
set_option maxRecDepth 100000
set_option maxHeartbeats 4000000
theorem names (f:Nat) (F:Func) (h:Tryz.prog.funcs[f]?=some F) (_:F.body.isSome=true):F.name≠ "runtime.NumGoroutine":=by
 have hall:Tryz.prog.funcs.all (fun F=>!(F.name== "runtime.NumGoroutine"))=true:=by kernel_rfl
 have:=Array.all_eq_true_iff_forall_mem.1 hall F (Array.mem_of_getElem? h)
 intro e;rw[e] at this;simp at this
theorem aJY {B0:Nat} {pr:hZ} (h:∀ f args res,pr f args=some (some res)→(∃ F,Tryz.prog.funcs[f]?=some F∧F.body.isSome=true)∧∀ sto w Ψ ρ ow vs,eA ans B0 w Ψ ρ ow args vs sto→∀ c cs,eE Tryz.prog ans B0 w Ψ ρ ow sto c cs (lone (Frame.enter Tryz.prog f vs .normal) (c::cs) w) res sto):Env Tryz.prog ans B0 pr :=
 ⟨h,names,fun _ hc=>aDI (by kernel_rfl) hc⟩
theorem pJ {B0:Nat} {fid:FuncId} {st:St} {w:World} {Ψ:HT} {ρ:List Nat} {ow:Own} {tmps:Array Value} (h:At Tryz.prog ans fid B0 w Ψ ρ ow st tmps) (d:Nat) (v:Value) (hd:d < (ans fid).nt) (hk:tlook (ans fid).keep st.tm d=.dead):At Tryz.prog ans fid B0 w Ψ ρ ow st (tmps.setIfInBounds d v):=by
 have hE:upd (sl (ans fid) st.tm ⟨[],st.sto⟩) d .dead=sl (ans fid) st.tm ⟨[],st.sto⟩:=by
  funext t;by_cases e:t=d
  ·subst e
   rw[dU];exact hk.symm
  ·rw[bG _ _ e]
 refine ⟨?_,h.nr,h.lo⟩
 have:=h.rel.write d .dead v hd (fun t o e=>absurd e (h.nr.tlook _ _ _ _)) (fun u o e=>by cases e) (fun cs e=>by cases e) Ψ.le_refl (aG _) h.rel.wsat (fun t _ _=>Same.refl _ _ _ _ _) (.dead v) h.rel.objs h.rel.lt (Nat.le_refl _)
 rw[hE] at this;exact this
def sB:bM→St→Option (bM×St):=fun e st=>some (e,st)
theorem j9 {B0:Nat} {cf:aO} {lp:aT} {fid:FuncId} {id:Nat} {ops:Array Oper} {st st':St} (hcf:lS Tryz.prog ans B0 cf) (e:XK Tryz.prog ans cf lp fid (.region id ops false) st sB=some (.norm,st')) {w:World} {Ψ:HT} {ρ:List Nat} {ow:Own} {tmps:Array Value} {ds:List Deferred} {b:Frame} {cs:List Frame} {items:List Item} (h:At Tryz.prog ans fid B0 w Ψ ρ ow st tmps) :
  ∃ w' Ψ' ρ' ow' tmps',At Tryz.prog ans fid B0 w' Ψ' ρ' ow' st' tmps'∧Fr w Ψ ow w' Ψ' ow'∧pre ρ ρ'∧StoLe st.sto st'.sto∧Steps Tryz.prog (lone (b.atR ⟨tmps,ds⟩ (.code (.region id ops false)::items)) cs w) (lone (b.atR ⟨tmps',ds⟩ items) cs w'):=by
 simp only[XK] at e;rw[n9] at e;rcases pE (ds:=ds) (b:=b) (items:=items) (cs:=cs) hcf h.nr (rs:=⟨[],st.sto⟩) h.rel h.lo e with ⟨rs',w',Ψ',ρ',ow',tmps',a1,a2,a3,a4,a5,a6⟩|⟨x,rs',v,w',Ψ',ρ',ow',tmps',todo',a1,a2,a3,a4,a5,a6,a7⟩
 ·simp only[sB,Option.some.injEq,Prod.mk.injEq,true_and] at a1
  subst a1;exact ⟨w',Ψ',ρ',ow',tmps',At.commit h.nr a2 (by rw[a5.lo];exact Nat.le_trans h.lo a5.len) rfl,a3,a4,a5,(Steps.one stepR_region).trans (a6.trans (.one stepR_region_end))⟩
 ·simp [sB] at a1
theorem vk {B0:Nat} {pr:hZ} (E:Env Tryz.prog ans B0 pr):lS Tryz.prog ans B0 (cfW Tryz.prog ans pr) where
 fn:=fun f args sto res sto' e=>by
  obtain ⟨n,hn⟩:=gZ.1 e;exact (uS E n).1.fn _ _ _ _ _ hn
 yld:=fun i args sto res sto' e=>by
  obtain ⟨n,hn⟩:=gZ.1 e;exact (uS E n).1.yld _ _ _ _ _ hn
def qU:Code→Code
 |.seq a _=>a
 |c=>c
def hY:Code→Code
 |.seq _ b=>b
 |c=>c
def aJA:Code→Code
 |.cond _ a _=>a
 |c=>c
noncomputable def b18:Code:=(Tryz.f18.body).getD .skip
noncomputable def p0:Code:=qU b18
noncomputable def p1:Code:=qU (qU (hY b18))
noncomputable def p2:Code:=qU (hY (qU (hY b18)))
noncomputable def p2t:Code:=aJA (hY (hY (qU (hY b18))))
noncomputable def p4:Code:=qU (hY (hY b18))
noncomputable def p5:Code:=qU (hY (hY (hY b18)))
noncomputable def p6:Code:=qU (qU (hY (hY (hY (hY b18)))))
noncomputable def p6t:Code:=aJA (hY (qU (hY (hY (hY (hY b18))))))
noncomputable def p8:Code:=qU (hY (hY (hY (hY (hY b18)))))
theorem aL5:Tryz.f18.body=some (.seq p0 (.seq (.seq p1 (.seq p2 (.cond (.tmp 12) p2t .skip))) (.seq p4 (.seq p5 (.seq (.seq p6 (.cond (.tmp 28) p6t .skip)) (.seq p8 .ret)))))):=by kernel_rfl
end Go.Proofs.YtdkkaldimefljaaGreatDoor
end
section
namespace Go.CM
open Go.AM (run_getObj bytes_beq)
def fnU (g:Nat) (m:Bool):Value:=.func (.func g) (match m with|true=>#[.agg #[]]|false=>#[]) #[]
def lookTab (l n:Nat):List (Nat×Nat×Nat×Bool)→Option (Nat×Bool)
 |[]=>none
 |p::r=>bif Nat.beq p.1 l&&Nat.beq p.2.1 n then some (p.2.2.1,p.2.2.2) else lookTab l n r
def aEm (tab:List (Nat×Nat×Nat×Bool)) (ents:List MapEntry):Prop:=tab.length=ents.length∧∀ (i:Nat) p e,tab[i]?=some p→ents[i]?=some e→(∃ s:List UInt8,e.key=.string ⟨⟨s⟩⟩∧s.length=p.1∧packL s=p.2.1)∧e.val=fnU p.2.2.1 p.2.2.2
theorem nc (s:List UInt8) {g:Nat} {m:Bool}:∀ {tab:List (Nat×Nat×Nat×Bool)} {ents:List MapEntry} (i:Nat),aEm tab ents→lookTab s.length (packL s) tab=some (g,m)→∃ j,Instr.findNow .string (.string ⟨⟨s⟩⟩) ents i=some (some (j,fnU g m))
 |[],ents,i,_,e=>by cases e
 |p::tab,[],i,h,e=>by have:=h.1;simp at this
 |p::tab,en::ents,i,h,e=>by
  obtain ⟨⟨s',hk,hl,hn⟩,hv⟩:=h.2 0 p en rfl rfl;have htl:aEm tab ents:=⟨by simpa using h.1,fun i p' e' h1 h2=>h.2 (i+1) p' e' (by simpa using h1) (by simpa using h2)⟩
  have hsame:Instr.sameNow .string (.string ⟨⟨s⟩⟩) en.key=some (s==s'):=by rw[hk];simp only[Instr.sameNow,bytes_beq]
  simp only[lookTab] at e;cases hc:Nat.beq p.1 s.length&&Nat.beq p.2.1 (packL s) with
  |true =>
   rw[hc] at e;cases e;simp only[Bool.and_eq_true] at hc;have hs:s=s':=mR (by rw[hl,Nat.eq_of_beq_eq_true hc.1]) (by rw[hn,Nat.eq_of_beq_eq_true hc.2]);refine ⟨i,?_⟩
   have:(s==s')=true:=by simpa using hs
   simp only[Instr.findNow,hsame,this,hv]
  |false =>
   rw[hc] at e
   have hs:(s==s')=false:=by
    cases h2:(s==s') with
    |false=>rfl
    |true =>
     have:s=s':=by simpa using h2
     subst this;rw[←hl,←hn] at hc;rw[show Nat.beq s.length s.length=true from Nat.beq_refl _,show Nat.beq (packL s) (packL s)=true from Nat.beq_refl _] at hc;cases hc
   obtain ⟨j,hj⟩:=nc s (i+1) htl e;exact ⟨j,by simp only[Instr.findNow,hsame,hs];exact hj⟩
theorem lookup_tab {P:Program} {w:World} {t kt el:TypeId} {b cl:Nat} {ents:Array MapEntry} {tab:List (Nat×Nat×Nat×Bool)} {s:List UInt8} {g:Nat} {m:Bool} (hu:P.underlying t=some (.map kt el)) (hk:P.underlying kt=some .string) (hh:w.heap[b]?=some (.map ents cl)) (hT:aEm tab ents.toList)
  (e:lookTab s.length (packL s) tab=some (g,m)):(Instr.lookup t (.map (some b)) (.string ⟨⟨s⟩⟩) false).run P w=.ok (fnU g m) w:=by
 obtain ⟨j,hj⟩:=nc s 0 hT e;have hget:=run_getObj (P:=P) hh (by simp);have hck:=AM.run_checkKey (P:=P) (w:=w) (Ψ:=fun _ _=>AM.hno) (ρ:=[]) (t:=kt) (x:=.str s) (by simp [AM.keyT,hk]) (.str s) ents.isEmpty 9999;have hfk:(Instr.findKey kt (.string ⟨⟨s⟩⟩) ents.toList).run P w=.ok (some (j,fnU g m)) w:=by simp [Instr.findKey,AM.run_underlying hk,hj]
 simp only[Instr.lookup,Sem.run_bind,AM.run_underlying hu,Result.andThen_ok,hget,Sem.run_pure,hck,hfk];rfl
set_option maxRecDepth 1000000 in
theorem aLO:isMk (compF Go.Proofs.Tryz.prog 28)=true:=by kernel_rfl
theorem call28 (w:World) (hw:8≤w.heap.size) (c:Frame) (cs:List Frame) :
  ∃ (w':World) (b:Nat) (ents:Array MapEntry) (cl:Nat),Steps Go.Proofs.Tryz.prog (lone (Frame.enter Go.Proofs.Tryz.prog 28 #[] .normal) (c::cs) w) (lone (c.finish (.map (some b))) cs w')∧w'.heap[b]?=some (.map ents cl)∧aEm fnTab ents.toList ∧
   w.heap.size≤w'.heap.size∧(∀ b,b < w.heap.size→w'.heap[b]?=w.heap[b]?)∧w'.os=w.os∧w'.tape=w.tape∧w'.output=w.output:=by
 obtain ⟨w',ρ',h',nx',u,x,h1,h2,h3,h4⟩:=call26 (n:=999) aLO (fun _=>.nil) aHY w hw c cs;unfold fin at h4
 split at h4
 ·simp only[V.tup.injEq] at h4
  have:=congrArg List.length h4
  simp [fnTab] at this
 ·rename_i o
  split at h4
  ·rename_i es hes
   obtain ⟨b,N,rfl,hb⟩:=h3.inv_map;have hO:=h2.obj o b N hb;rw[show h'.ob o=.map es from hes] at hO;cases hO with
   |map _ ents cl _ _ hB hW hM hBn =>
   simp only[V.tup.injEq] at h4;refine ⟨w',b,⟨ents⟩,cl,h1,hW,⟨?_,fun i p e hp he=>?_⟩,h2.size,h2.old,h2.os,h2.tape,h2.output⟩
   ·have:=congrArg List.length h4
    simp only[List.length_map] at this;rw[←this];exact hM.len
   ·have hei:es.length=fnTab.length:=by have:=congrArg List.length h4;simpa using this
    have hlt:i < es.length:=by rw[hei];exact (List.getElem?_eq_some_iff.1 hp).1
    have h5:=congrArg (fun l=>l[i]?) h4;simp only[List.getElem?_map,hp,List.getElem?_eq_getElem hlt,Option.map_some,Option.some.injEq,fnV,V.tup.injEq,List.cons.injEq,and_true] at h5;have hk:=hM.key i _ e (List.getElem?_eq_getElem hlt) he;have hv:=hM.val i _ e (List.getElem?_eq_getElem hlt) he;rw[h5.1] at hk;rw[h5.2] at hv;obtain ⟨s,e1,e2,e3⟩:=hk.inv_str;refine ⟨⟨s,e1,e2,e3⟩,?_⟩;obtain ⟨us,vs,e4,r1,r2⟩:=hv.inv_fn;obtain rfl:=r2.inv_nil;rw[e4,dY];unfold fnU;cases hm:p.2.2.2 with
    |false =>
     rw[hm] at r1;obtain rfl:=r1.inv_nil;rfl
    |true =>
     rw[hm] at r1;obtain ⟨v,vs',rfl,q1,q2⟩:=r1.inv_cons;obtain rfl:=q2.inv_nil;obtain ⟨ws,rfl,q3,_⟩:=q1.inv_agg;obtain rfl:=q3.inv_nil;rfl
  ·cases h4
 ·cases h4
 ·cases h4
 ·cases h4
end Go.CM
end
section
namespace Go.Proofs.YtdkkaldimefljaaGreatDoor
open Go.AM
variable [Aps]
set_option maxRecDepth 100000
set_option maxHeartbeats 8000000
abbrev zV:AObj:=.box [.val (.str []),.val (.int .i64 0),.own 3 []]
abbrev zE:AObj:=.box [.val (.int .i64 0)]
theorem h0 (nm:List UInt8) (xs:List AVal):XK Tryz.prog ans CF LP 18 p0 ⟨[.val (.str nm),.val (.slice xs),.dead,.dead,.dead,.dead,.dead,.dead],⟨[],0⟩⟩ sB=some (.norm,⟨[.val (.str nm),.val (.slice xs),.val (.loc 0 0),.val (.loc 1 0),.dead,.dead,.dead,.dead],⟨[zV,zE],0⟩⟩):=by
 show XK _ _ _ _ _ (.region _ _ _) _ _=_;refine tQ ?_;repeat first|with_reducible constructor|with_reducible refine tW rfl ?_|((with_reducible apply tG);(·kernel_rfl);(·(intro _ _;(repeat (apply tOp;(·(intro _;simp only[FL,FO,go_sem];rfl))));rfl));(·(simp only[go_sem];rfl)))
 rfl
theorem h1 (nm:List UInt8) (xs:List AVal) (h26:CF (.fn 26) [.val (.str nm),.val (.slice xs)] ⟨[zV,zE],0⟩=some (.ret (.val (.int .i64 0)),⟨[zV,zE],0⟩)) :
  XK Tryz.prog ans CF LP 18 p1 ⟨[.val (.str nm),.val (.slice xs),.val (.loc 0 0),.val (.loc 1 0),.dead,.dead,.dead,.dead],⟨[zV,zE],0⟩⟩ sB=some (.norm,⟨[.val (.str nm),.val (.slice xs),.val (.loc 0 0),.val (.loc 1 0),.val (.int .i64 0),.dead,.dead,.dead],⟨[zV,zE],0⟩⟩):=by
 show XK _ _ _ _ _ (.region _ _ _) _ _=_;refine tQ ?_;repeat first|with_reducible constructor|with_reducible refine tW rfl ?_|((with_reducible apply tG);(·kernel_rfl);(·(intro _ _;(repeat (apply tOp;(·(intro _;simp only[h26,go_sem];rfl))));rfl));(·(simp only[go_sem];rfl)))
 rfl
theorem h2 (nm:List UInt8) (xs:List AVal):XK Tryz.prog ans CF LP 18 p2 ⟨[.val (.str nm),.val (.slice xs),.val (.loc 0 0),.val (.loc 1 0),.val (.int .i64 0),.dead,.dead,.dead],⟨[zV,zE],0⟩⟩ sB=some (.norm,⟨[.val (.str nm),.val (.slice xs),.val (.loc 0 0),.val (.loc 1 0),.val (.int .i64 0),.dead,.val (.bool false),.dead],⟨[zV,zE],0⟩⟩):=by
 show XK _ _ _ _ _ (.region _ _ _) _ _=_;refine tQ ?_;repeat first|with_reducible constructor|with_reducible refine tW rfl ?_|((with_reducible apply tG);(·kernel_rfl);(·(intro _ _;(repeat (apply tOp;(·(intro _;simp only[go_sem];rfl))));rfl));(·(simp only[go_sem];rfl)))
 rfl
theorem h6 (nm:List UInt8) (xs:List AVal) (r:VaD) (n:Int) (hn:decide (n > 4000)=false) (h29:CF (.fn 29) [.val r.enc] ⟨[zV,zE],0⟩=some (.ret (.val (.int .i64 n)),⟨[zV,zE],0⟩)) (h24:CF (.fn 24) [.val r.enc] ⟨[zV,zE],0⟩=some (.ret (.val (.int .i64 0)),⟨[zV,zE],0⟩)) :
  XK Tryz.prog ans CF LP 18 p6 ⟨[.val (.str nm),.val (.slice xs),.val (.loc 0 0),.val (.loc 1 0),.val (.int .i64 0),.box (aS r),.val (.bool false),.dead],⟨[zV,zE],0⟩⟩ sB=some (.norm,⟨[.val (.str nm),.val (.slice xs),.val (.loc 0 0),.val (.loc 1 0),.val (.int .i64 0),.box (aS r),.val (.bool false),.val (.bool false)],⟨[zV,zE],0⟩⟩):=by
 rw[VaD.enc_eq r] at h29 h24;simp only[aS];show XK _ _ _ _ _ (.region _ _ _) _ _=_;refine tQ ?_;repeat first|with_reducible constructor|with_reducible refine tW rfl ?_|((with_reducible apply tG);(·kernel_rfl);(·(intro _ _;(repeat (apply tOp;(·(intro _;simp only[h29,h24,hn,go_sem];rfl))));rfl));(·(simp only[go_sem];rfl)))
 rfl
theorem h8 (nm:List UInt8) (xs:List AVal) (r:VaD) (h22:CF (.fn 22) [.val r.enc] ⟨[zV,zE],0⟩=some (.ret (.val r.enc),⟨[zV,zE],0⟩)) :
  XK Tryz.prog ans CF LP 18 p8 ⟨[.val (.str nm),.val (.slice xs),.val (.loc 0 0),.val (.loc 1 0),.val (.int .i64 0),.box (aS r),.val (.bool false),.val (.bool false)],⟨[zV,zE],0⟩⟩ sB=some (.norm,⟨[.val (.str nm),.val (.slice xs),.val (.loc 0 0),.val (.loc 1 0),.val (.int .i64 0),.box (aS r),.val (.bool false),.val (.bool false)],⟨[.box (aS r),zE],0⟩⟩):=by
 rw[VaD.enc_eq r] at h22;simp only[aS];show XK _ _ _ _ _ (.region _ _ _) _ _=_;refine tQ ?_;repeat first|with_reducible constructor|with_reducible refine tW rfl ?_|((with_reducible apply tG);(·kernel_rfl);(·(intro _ _;(repeat (apply tOp;(·(intro _;simp only[h22,go_sem];rfl))));rfl));(·(simp only[go_sem];rfl)))
 rfl
end Go.Proofs.YtdkkaldimefljaaGreatDoor
end
section
namespace Go.Proofs.YtdkkaldimefljaaGreatDoor
open Go.AM Go.RowKit
set_option maxRecDepth 100000
set_option maxHeartbeats 4000000
theorem aI8 (tmps:Array Value) (hs:tmps.size=33) (w:World):p4.wp Tryz.prog (fun e a w'=>e=.normal∧w'=w∧a.tmps=tmps.setIfInBounds 15 (.func (.func 27) #[] #[tmps.getD 4 undef,tmps.getD 5 undef])∧a.defers=[{ target:=.fn (.func 27) #[tmps.getD 4 undef,tmps.getD 5 undef],args:=#[] }]) ⟨tmps,[]⟩ w:=by
 have hmf:∀ (fn:Fn) (first cap:Array Value) (w:World),(Instr.makeFunc fn first cap).run Tryz.prog w=.ok (.func fn first cap) w:=fun _ _ _ _=>rfl
 show (Code.region _ _ _).wp _ _ _ _
 go_wp2
theorem qe (p q:Value) (w:World):CallsD Tryz.prog 27 #[p,q] .returning w fun e u' w'=>e=.returned (.tuple #[])∧u'=.returning∧w'=w:=by
 refine callsD_of_wpS Tryz.func27 rfl fun c₀ cs hu=>?_
 apply wpS_seq;apply wpS_region;simp [wpOpsS,go_sem,recoverD,hu,Tryz.ntmps27,Exit.thenS];refine wpS_of_wp ?_
 go_wp2
 cases c₀
 simp_all [bodyPostS,results,Tryz.results27]
def aHy:Code→Array Oper
 |.region _ ops _=>ops
 |_=>#[]
def aCJ:Code→Nat
 |.region i _ _=>i
 |_=>0
noncomputable def o5:Array Oper:=aHy p5
theorem p5E:p5=.region (aCJ p5) o5 false:=by kernel_rfl
theorem aAt:o5.size=7:=by kernel_rfl
noncomputable def op5 (i:Nat):Oper:=o5.getD i ⟨none,.move (.tmp 0),0,default,#[],none⟩
theorem py {i:Nat} (h:i < 7):o5[i]?=some (op5 i):=by
 have h':i < o5.size:=by rw[aAt];exact h
 simp [op5,Array.getD,h']
noncomputable def ats (o:Oper):Array TypeId:=match o.op with
 |.call c=>c.argTypes
 |_=>#[]
theorem i0:Is (op5 0) (some 16) (.call ⟨.value (.func 28),#[],ats (op5 0)⟩):=⟨by kernel_rfl,by kernel_rfl,by kernel_rfl⟩
theorem i1:Is (op5 1) (some 17) (.move (.tmp 0)):=⟨by kernel_rfl,by kernel_rfl,by kernel_rfl⟩
theorem i2:Is (op5 2) (some 18) (.lookup 71 (.tmp 16) (.tmp 17) false):=⟨by kernel_rfl,by kernel_rfl,by kernel_rfl⟩
theorem i3:Is (op5 3) (some 19) (.move (.tmp 1)):=⟨by kernel_rfl,by kernel_rfl,by kernel_rfl⟩
theorem i4:Is (op5 4) (some 20) (.call ⟨.value (.tmp 18),#[.tmp 19],ats (op5 4)⟩):=⟨by kernel_rfl,by kernel_rfl,by kernel_rfl⟩
end Go.Proofs.YtdkkaldimefljaaGreatDoor
end
