import Derived.Test.YtoiocfngjchdiaaGreatDoorT00
set_option linter.all false
set_option maxRecDepth 100000
set_option maxHeartbeats 16000000
namespace Go.Proofs.YtoiocfngjchdiaaGreatDoor
open Go.AM
variable [h_]
inductive Tr where
 |leaf
 |node (l:Tr) (x:Int) (r:Tr)
def Tr.val:Tr->ad
 |.leaf=>.mk [76,101,97,102] 0 []
 |.node l x r=>.mk [78,111,100,101] 0 [l.val,bL x,r.val]
def Tr.put(n:Int):Tr->Tr
 |.leaf=>.node .leaf n .leaf
 |.node l x r=>bif decide (n<x) then .node (l.put n) x r else bif decide (x<n) then .node l x (r.put n) else .node l x r
def Tr.flat:Tr->List Int
 |.leaf=>[]
 |.node l x r=>l.flat++x::r.flat
def Tr.depth:Tr->Nat
 |.leaf=>0
 |.node l _ r=>1+max l.depth r.depth
def Tr.mem(n:Int):Tr->Bool
 |.leaf=>false
 |.node l x r=>bif decide (n<x) then l.mem n else bif decide (x<n) then r.mem n else true
def Tr.nodes:Tr->Nat
 |.leaf=>0
 |.node l _ r=>1+l.nodes+r.nodes
theorem wW:Tr.leaf.val.enc=.agg [.str [76,101,97,102],.int .i64 0,.slice []]:=by simp only[Tr.val,ad.ce,Av]
theorem xI(l r:Tr)(x:Int):(Tr.node l x r).val.enc=.agg [.str [78,111,100,101],.int .i64 0,.slice [l.val.enc,.agg [.str [],.int .i64 x,.slice []],r.val.enc]]:=by simp only[Tr.val,ad.ce,Ba,Av,wQ]
def dv(l:List Int):List ae:=l.map λn=>.agg [.str [],.int .i64 n,.slice []]
theorem a6S(a b:List Int):dv (a++b)=dv a++dv b:=by simp[dv]
theorem nR(a:List Int):(dv a).length=a.length:=by simp[dv]
theorem kV:∀t:Tr,t.flat.length=t.nodes
 |.leaf=>rfl
 |.node l x r=>by simp only[Tr.flat,Tr.nodes,Bc,Ak,kV l,kV r];omega
def tH(t:Tr):Slot:=match t with
 |.leaf=>.nl
 |t=>.own 3 (dv t.flat)
theorem aR4:∀(t:Tr)(X:List ae)(sto:AH),X.length+t.nodes<AR->CF (.fn 148) [.own 3 X,.val t.val.enc] sto=some (.ret (.own 3 (X++dv t.flat)),sto):=by
 intro t;induction t with
 |leaf =>
  intro X sto _;simp only[wW,Tr.flat,dv,Av,Ao];apply tA;rfl;rfl;exact Tryz.func148;rfl;rfl;simp only[go_sem];rfl;refine tQ ?_;repeat first|with_reducible constructor|with_reducible refine tW rfl ?_|((with_reducible apply tG);(·kernel_rfl);(·(intro _ _;(repeat (apply BL;(·(intro _;simp only[go_sem];rfl))));rfl));(·(simp only[go_sem];rfl)))
  (with_reducible apply tT);simp only[go_sem];rfl;rfl;refine tQ ?_;repeat first|with_reducible constructor|with_reducible refine tW rfl ?_
  refine GZ ?_;exact jZ rfl
 |node l x r xi ihr =>
  intro X sto hX;simp only[Tr.nodes] at hX;have I4:=kV l;have hl:=λS=>xi X S (by omega)
  have hr:=λS=>ihr (X++dv l.flat++[.agg [.str [],.int .i64 x,.slice []]]) S (by simp[nR,I4];omega)
  have EX:Nat.ble ((X++dv l.flat).length+1) room=true:=by
   apply Ah;simp only[room,Bc,nR,I4];simp only[AR] at hX;omega
  have e1:X++dv (Tr.node l x r).flat=X++dv l.flat++[.agg [.str [],.int .i64 x,.slice []]]++dv r.flat:=by simp[Tr.flat,dv]
  rw[e1];simp only[xI];rw[ad.aw l.val] at hl ⊢;rw[ad.aw r.val] at hr ⊢;apply tA;rfl;rfl;exact Tryz.func148;rfl;rfl;simp only[go_sem];rfl;refine tQ ?_;repeat first|with_reducible constructor|with_reducible refine tW rfl ?_|((with_reducible apply tG);(·kernel_rfl);(·(intro _ _;(repeat (apply BL;(·(intro _;simp only[go_sem];rfl))));rfl));(·(simp only[go_sem];rfl)))
  (with_reducible apply tF);simp only[go_sem];rfl;rfl;refine tQ ?_;repeat first|with_reducible constructor|with_reducible refine tW rfl ?_
  refine l9 ?_;exact jZ rfl
theorem aR3:∀(t:Tr)(sto:AH),t.nodes<AR->CF (.fn 148) [.nl,.val t.val.enc] sto=some (.ret (tH t),sto):=by
 intro t;induction t with
 |leaf =>
  intro sto _;simp only[wW,tH];apply tA;rfl;rfl;exact Tryz.func148;rfl;rfl;simp only[go_sem];rfl;refine tQ ?_;repeat first|with_reducible constructor|with_reducible refine tW rfl ?_|((with_reducible apply tG);(·kernel_rfl);(·(intro _ _;(repeat (apply BL;(·(intro _;simp only[go_sem];rfl))));rfl));(·(simp only[go_sem];rfl)))
  (with_reducible apply tT);simp only[go_sem];rfl;rfl;refine tQ ?_;repeat first|with_reducible constructor|with_reducible refine tW rfl ?_
  refine GZ ?_;exact jZ rfl
 |node l x r xi ihr =>
  intro sto hX;simp only[Tr.nodes] at hX;have I4:=kV l;have hl:=λS=>xi S (by omega)
  have hr:=λS=>aR4 r (dv l.flat++[.agg [.str [],.int .i64 x,.slice []]]) S (by simp[nR,I4];omega)
  have EX:Nat.ble ((dv l.flat).length+1) room=true:=by
   apply Ah;simp only[room,nR,I4];simp only[AR] at hX;omega
  have a8y:Nat.ble 1 room=true:=rfl;have e1:tH (Tr.node l x r)=.own 3 (dv l.flat++[.agg [.str [],.int .i64 x,.slice []]]++dv r.flat):=by simp[tH,Tr.flat,dv]
  rw[e1];cases l with
  |leaf =>
   have e2:dv Tr.leaf.flat=[]:=rfl;simp only[e2,Ai,tH] at hl hr ⊢;simp only[xI,wW] at hl ⊢;rw[ad.aw r.val] at hr ⊢;apply tA;rfl;rfl;exact Tryz.func148;rfl;rfl;simp only[go_sem];rfl;refine tQ ?_;repeat first|with_reducible constructor|with_reducible refine tW rfl ?_|((with_reducible apply tG);(·kernel_rfl);(·(intro _ _;(repeat (apply BL;(·(intro _;simp only[go_sem];rfl))));rfl));(·(simp only[go_sem];rfl)))
   (with_reducible apply tF);simp only[go_sem];rfl;rfl;refine tQ ?_;repeat first|with_reducible constructor|with_reducible refine tW rfl ?_
   refine l9 ?_;exact jZ rfl
  |node ll y lr =>
   have e2:tH (Tr.node ll y lr)=.own 3 (dv (Tr.node ll y lr).flat):=rfl;rw[e2] at hl;generalize Tr.node ll y lr=l at *;simp only[xI];rw[ad.aw l.val] at hl ⊢;rw[ad.aw r.val] at hr ⊢;apply tA;rfl;rfl;exact Tryz.func148;rfl;rfl;simp only[go_sem];rfl;refine tQ ?_;repeat first|with_reducible constructor|with_reducible refine tW rfl ?_|((with_reducible apply tG);(·kernel_rfl);(·(intro _ _;(repeat (apply BL;(·(intro _;simp only[go_sem];rfl))));rfl));(·(simp only[go_sem];rfl)))
   (with_reducible apply tF);simp only[go_sem];rfl;rfl;refine tQ ?_;repeat first|with_reducible constructor|with_reducible refine tW rfl ?_
   refine l9 ?_;exact jZ rfl
def fO(n:Int):ae:=.int .i64 n
theorem c11(l:List Int)(hl:l.length<AR)(sto:AH):CF (.fn 11) [.val (.slice (l.map fO))] sto=some (.ret (.val (.slice ((l.take 30).map fO))),sto):=by
 by_cases h:l.length<=30
 ·have pi:decide (((l.length:Nat):Int)>30)=false:=by simp;omega
  rw[Bz h];exact BP
 ·have pi:decide (((l.length:Nat):Int)>30)=true:=by simp;omega
  have e1:(List.drop (Int.toNat 0) (List.take (Int.toNat 30) (l.map fO)))=(l.take 30).map fO:=by
   rw[List.map_take];rfl
  have hle:decide ((30:Int)<=((l.length:Nat):Int))=true:=by simp;omega
  have CA:((l.take 30).map fO).all (λy=>Nat.beq y.cells.length 1)=true:=by
   rw[Au];intro x hx;obtain⟨n,_,rfl⟩:=Cn.1 hx;rfl
  have hhd:eb 1 ((l.take 30).map fO)=true:=by
   cases l with
   |nil=>rfl
   |cons a l=>rfl
  have hlen:((l.take 30).map fO).length=30:=by simp;omega
  exact BP
theorem aNu(sto:AH)(ys:List Int):∀(pre:List Int),(pre++ys).length+1<AR ->
  ∃s0 s2 s4 s8,LP 13 (aN Tryz.f13 0) ⟨[.val (.slice ((pre++ys).map fO)),.dead,.own 3 (dv pre),.val (.int .i64 (pre.length:Nat)),.dead],sto⟩=some (.exit 0,⟨[s0,s2,.own 3 (dv (pre++ys)),s4,s8],sto⟩):=by
 induction ys with
 |nil =>
  intro pre h3;have AL:=DK pre;simp only[Ao];iterate 4 apply Exists.intro
  refine tI rfl ?_;exact BP;all_goals exact .dead
 |cons y ys ih =>
  intro pre h3;have AN:=cQ fO pre ys y;have AL:=CQ pre ys y;have h0:=zI pre.length;have hw:=wL pre ys y (by omega);have hr:Nat.ble ((dv pre).length+1) room=true:=by apply Ah;simp only[room,nR];simp only[Bc,Ak,AR] at h3;omega
  have emap:dv (pre++[y])=dv pre++[.agg [.str [],.int .i64 y,.slice []]]:=by rw[a6S];rfl
  obtain⟨s0,s2,s4,s8,ih⟩:=ih (pre++[y]) (by simpa using h3);rw[emap] at ih;simp only[Aj,Al] at ih;simp only[fO] at AN;refine⟨s0,s2,s4,s8,?_⟩;refine tI rfl ?_;exact BP
theorem c13(l:List Int)(hl:l.length+1<AR)(sto:AH):CF (.fn 13) [.val (.slice (l.map fO))] sto=some (.ret (.val (.slice (dv l))),sto):=by
 obtain⟨s0,s2,s4,s8,BJ⟩:=aNu sto l [] (by simpa using hl);have e0:dv []=[]:=rfl;simp only[Ai,Ap,e0] at BJ;apply tA;rfl;rfl;exact Tryz.func13;rfl;rfl;simp only[go_sem];rfl;refine tQ ?_;repeat first|with_reducible constructor|with_reducible refine tW rfl ?_|((with_reducible apply tG);(·kernel_rfl);(·(intro _ _;(repeat (apply BL;(·(intro _;simp only[Ay,go_sem];rfl))));rfl));(·(simp only[go_sem];rfl)))
 apply tL;exact BJ;exact wk
def dN(n:Int)(l:List Int):Nat:=l.countP λx=>x==n
theorem aNw(n:Int)(sto:AH)(ys:List Int):∀(pre:List Int),(pre++ys).length<AR ->
  ∃s0 s1 s4 s6 s10 BZ,LP 17 (aN Tryz.f17 0) ⟨[.val (.slice ((pre++ys).map fO)),.val (.int .i64 n),.dead,.val (.int .i64 (dN n pre:Nat)),.val (.int .i64 (pre.length:Nat)),.dead,.dead],sto⟩=some (.exit 0,⟨[s0,s1,s4,.val (.int .i64 (dN n (pre++ys):Nat)),s6,s10,BZ],sto⟩):=by
 induction ys with
 |nil =>
  intro pre h3;have AL:=DK pre;simp only[Ao];iterate 6 apply Exists.intro
  refine tI rfl ?_;exact BP;all_goals exact .dead
 |cons y ys ih =>
  intro pre h3;have AN:=cQ fO pre ys y;have AL:=CQ pre ys y;have h0:=zI pre.length;have hw:=wL pre ys y h3;obtain⟨s0,s1,s4,s6,s10,BZ,ih⟩:=ih (pre++[y]) (by simpa using h3);simp only[Aj,Al] at ih;simp only[fO] at AN;have F7:dN n pre<=pre.length:=List.countP_le_length;cases hc:(y==n) with
  |true =>
   have e1:dN n (pre++[y])=dN n pre+1:=by simp[dN,List.countP_append,hc,List.countP_cons]
   have k5:IntKind.i64.wrap (((dN n pre:Nat):Int)+1)=((dN n pre+1:Nat):Int):=wI _ (by simp at h3;omega);rw[e1] at ih;refine⟨s0,s1,s4,s6,s10,BZ,?_⟩;refine tI rfl ?_;exact BP
  |false =>
   have e1:dN n (pre++[y])=dN n pre:=by simp[dN,List.countP_append,hc,List.countP_cons]
   rw[e1] at ih;refine⟨s0,s1,s4,s6,s10,BZ,?_⟩;refine tI rfl ?_;exact BP
theorem VJ(l:List Int)(n:Int)(hl:l.length<AR)(sto:AH):CF (.fn 17) [.val (.slice (l.map fO)),.val (.int .i64 n)] sto=some (.ret (.val (.int .i64 (dN n l:Nat))),sto):=by
 obtain⟨s0,s1,s4,s6,s10,BZ,BJ⟩:=aNw n sto l [] (by simpa using hl);have e0:dN n []=0:=rfl;simp only[Ai,Ap,e0] at BJ;apply tA;rfl;rfl;exact Tryz.func17;rfl;rfl;simp only[go_sem];rfl;refine tQ ?_;repeat first|with_reducible constructor|with_reducible refine tW rfl ?_|((with_reducible apply tG);(·kernel_rfl);(·(intro _ _;(repeat (apply BL;(·(intro _;simp only[Ay,go_sem];rfl))));rfl));(·(simp only[go_sem];rfl)))
 apply tL;exact BJ;exact wk
theorem finVal{P:Program}{an:AF}{fn:Func}{n:Nat}{tm:List Slot}{sto:AH}{v:ae}{t:Nat}(h1:an.ownRes=false)(h2:fn.results.toList=[.tmp t])(h3:bg an.keep tm t=.val v)(h4:ct n v=true):finish P an fn n ⟨tm,sto⟩=some (.ret (.val v),⟨sto.objs.take n,sto.lo⟩):=by
 simp only[finish,h1,h2,fG,h3,DS,trim,cF,h4,Bo]
theorem S9(c:List UInt8)(k:Int)(h:eC c=some k)(sto:AH):CF (.fn 192) [.val (.str c)] sto=some (.ret (.val (.int .i64 k)),sto):=by
 refine NI (r:=.ret (.val (.int .i64 k))) ?_ rfl;show some ((eC c).map λk=>d_.ret (.val (.int .i64 k)))=_;rw[h];rfl
theorem aDE{c:List UInt8}(h:mD c=true):eC c=some 3:=by simpa only[mD,Cb] using h
theorem a1w{c:List UInt8}(h:mD c=true):(c==[])=false/\(c==[44])=false:=by
 constructor
 ·cases hc:c==[] with
  |false=>rfl
  |true=>rw[Cb.1 hc] at h;exact absurd h (by decide)
 ·cases hc:c==[44] with
  |false=>rfl
  |true=>rw[Cb.1 hc] at h;exact absurd h (by decide)
def cN(v:ad):List Cell:=[.val (.str v.bh),.val (.int .i64 v.num),.val (.slice (v.args.map ad.enc))]
theorem OH(c:List UInt8)(h:mD c=true)(sto:AH):CF (.fn 150) [.val (.str c)] sto=some (.ret (.val (.bool true)),sto):=by
 have h1:=S9 c 3 (aDE h) sto;exact wk
mutual
def ad.valid:ad->Bool
 |.mk c n al=>bif c==[] then al.length==0 else(n==0)&&decide (al.length<=16)&&mD c&&ad.qt al
def ad.qt:List ad->Bool
 |[]=>true
 |v::l=>v.valid&&ad.qt l
end
theorem ad.a2K(v:ad):v.valid=bif v.bh==[] then v.args.length==0 else(v.num==0)&&decide (v.args.length<=16)&&mD v.bh&&ad.qt v.args:=by cases v;rfl
theorem ad.xr:∀{l:List ad},ad.qt l=true->∀v∈l,v.valid=true
 |[],_,v,h=>by simp at h
 |x::l,h,v,hv=>by
  simp only[ad.qt,Ac] at h;rcases As.1 hv with hv|hv
  ·subst hv;exact h.1
  ·exact ad.xr h.2 v hv
def kD(O:List ai)(lo:Nat)(bv:ai)(c:Nat):AH:=⟨O++[bv,.box [.val (.int .i64 (c:Nat))]],lo⟩
theorem aHl{O:List ai}{lo:Nat}(AP:lo<=O.length){bv:ai}(s:List UInt8)(n:Int)(ys:List ad):∀(pre:List ad)(c:Nat),(pre++ys).length<AR->c+ad.cA ys<=4000 ->
  (∀y∈ys,∀c:Nat,c+y.cu<=4000->CF (.fn 95) [.val (.ay y.enc),.val (.loc (O.length+1) 0)] (kD O lo bv c)=some (.ret (.val (.bool true)),kD O lo bv (c+y.cu))) ->
  ∃s0 s1 s4 s5 s6 B5 DP Kv C5 G2 Kq Kp Ko,LP 95 (aN Tryz.f95 0) ⟨[.val (.ay (.agg [.str s,.int .i64 n,.slice ((pre++ys).map ad.enc)])),.val (.loc (O.length+1) 0),.dead,.dead,.dead,.dead,.dead,.dead,.dead,.val (.int .i64 ((pre++ys).length:Nat)),.val (.int .i64 (pre.length:Nat)),.dead,.dead],kD O lo bv c⟩ =
   some (.exit 1,⟨[s0,s1,s4,s5,s6,B5,DP,Kv,C5,G2,Kq,Kp,Ko],kD O lo bv (c+ad.cA ys)⟩):=by
 induction ys with
 |nil =>
  intro pre c h3 h4 h2;have AL:=DK pre;simp only[Ao,ad.cA,Ax];iterate 13 apply Exists.intro
  refine tI rfl ?_;exact wk;all_goals exact .dead
 |cons y ys ih =>
  intro pre c h3 h4 h2;have AN:=cQ ad.enc pre ys y;have AL:=CQ pre ys y;have h0:=zI pre.length;have hw:=wL pre ys y h3;simp only[ad.cA] at h4;have hc:=h2 y (by simp) c (by omega);obtain⟨s0,s1,s4,s5,s6,B5,DP,Kv,C5,G2,Kq,Kp,Ko,ih⟩:=ih (pre++[y]) (c+y.cu) (by simpa using h3) (by omega) (λx hx=>h2 x (by simp[hx]));simp only[Aj,Al] at ih;have e1:c+ad.cA (y::ys)=c+y.cu+ad.cA ys:=by simp only[ad.cA];omega
  rw[e1];rw[y.aw] at AN hc;simp only[kD] at hc ih ⊢;refine⟨s0,s1,s4,s5,s6,B5,DP,Kv,C5,G2,Kq,Kp,Ko,?_⟩;refine tI rfl ?_;exact BP
theorem aHm{O:List ai}{lo:Nat}(AP:lo<=O.length)(bl:List ad)(s:List UInt8)(n:Int)(ys:List ad):∀(pre:List ad)(c:Nat),bl=pre++ys->(pre++ys).length<AR->c+ad.cA ys<=4000 ->
  (∀y∈ys,∀c:Nat,c+y.cu<=4000->CF (.fn 95) [.val (.ay y.enc),.val (.loc (O.length+1) 0)] (kD O lo (.box [.val (.str s),.val (.int .i64 n),.val (.slice (bl.map ad.enc))]) c)=some (.ret (.val (.bool true)),kD O lo (.box [.val (.str s),.val (.int .i64 n),.val (.slice (bl.map ad.enc))]) (c+y.cu))) ->
  ∃s0 s1 s4 s5 s6 B5 DP Kv C5 G2 Kq Kp Ko,LP 95 (aN Tryz.f95 0) ⟨[.val (.loc O.length 0),.val (.loc (O.length+1) 0),.dead,.dead,.dead,.dead,.dead,.dead,.dead,.val (.int .i64 ((pre++ys).length:Nat)),.val (.int .i64 (pre.length:Nat)),.dead,.dead],kD O lo (.box [.val (.str s),.val (.int .i64 n),.val (.slice (bl.map ad.enc))]) c⟩ =
   some (.exit 1,⟨[s0,s1,s4,s5,s6,B5,DP,Kv,C5,G2,Kq,Kp,Ko],kD O lo (.box [.val (.str s),.val (.int .i64 n),.val (.slice (bl.map ad.enc))]) (c+ad.cA ys)⟩):=by
 induction ys with
 |nil =>
  intro pre c Mv h3 h4 h2;have AL:=DK pre;simp only[Ao,ad.cA,Ax];iterate 13 apply Exists.intro
  refine tI rfl ?_;refine tQ ?_;repeat first|with_reducible constructor|with_reducible refine tW rfl ?_|((with_reducible apply tG);(·kernel_rfl);(·(intro _ _;(repeat (apply BL;(·(intro _;simp only[go_sem];rfl))));rfl));(·(simp only[go_sem];rfl)))
  (with_reducible apply tF);simp only[go_sem];rfl;exact AL;refine tQ ?_;repeat first|with_reducible constructor|with_reducible refine tW rfl ?_
  exact RP;all_goals exact .dead
 |cons y ys ih =>
  intro pre c Mv h3 h4 h2;have AN:=cQ ad.enc pre ys y;rw[<-Mv] at AN;have AL:=CQ pre ys y;have h0:=zI pre.length;have hw:=wL pre ys y h3;simp only[ad.cA] at h4;have hc:=h2 y (by simp) c (by omega);obtain⟨s0,s1,s4,s5,s6,B5,DP,Kv,C5,G2,Kq,Kp,Ko,ih⟩:=ih (pre++[y]) (c+y.cu) (by simp[Mv]) (by simpa using h3) (by omega) (λx hx=>h2 x (by simp[hx]));simp only[Aj,Al] at ih;have e1:c+ad.cA (y::ys)=c+y.cu+ad.cA ys:=by simp only[ad.cA];omega
  rw[e1];rw[y.aw] at AN hc;simp only[kD] at hc ih ⊢;refine⟨s0,s1,s4,s5,s6,B5,DP,Kv,C5,G2,Kq,Kp,Ko,?_⟩;refine tI rfl ?_;refine tQ ?_;repeat first|with_reducible constructor|with_reducible refine tW rfl ?_|((with_reducible apply tG);(·kernel_rfl);(·(intro _ _;(repeat (apply BL;(·(intro _;simp only[go_sem];rfl))));rfl));(·(simp only[go_sem];rfl)))
  (with_reducible apply tT);simp only[go_sem];rfl;exact AL;refine tQ ?_;repeat first|with_reducible constructor|with_reducible refine tW rfl ?_|((with_reducible apply tG);(·kernel_rfl);(·(intro _ _;(repeat (apply BL;(·(intro _;simp only[FL,FO,AN,h0,hc,Ax,go_sem];rfl))));rfl));(·(simp only[go_sem];rfl)))
  (with_reducible apply tF);simp only[go_sem];rfl;rfl;refine tQ ?_;repeat first|with_reducible constructor|with_reducible refine tW rfl ?_|((with_reducible apply tG);(·kernel_rfl);(·(intro _ _;(repeat (apply BL;(·(intro _;simp only[hw,go_sem];rfl))));rfl));(·(simp only[go_sem];rfl)))
  exact ih
theorem aWz{O:List ai}{lo:Nat}(AP:lo<=O.length){bv:ai}:∀(v:ad)(c:Nat),v.valid=true->v.size<AR->c+v.cu<=4000 ->
  CF (.fn 95) [.val (.ay v.enc),.val (.loc (O.length+1) 0)] (kD O lo bv c)=some (.ret (.val (.bool true)),kD O lo bv (c+v.cu)):=by
 intro v;induction v using ad.ind with
 |h v ih =>
  intro c hv hs hc;have GG:Nat.ble lo (O.length+1)=true:=Ah (by omega);have F7:=v.tZ;have CR:=v.vr;have k5:IntKind.i64.wrap (((c:Nat):Int)+1)=((c+1:Nat):Int):=wI _ (by simp only[AR];omega);have pi:decide (((c+1:Nat):Int)>4000)=false:=by simp;omega
  rw[ad.a2K] at hv;cases h0:(v.bh==[]) with
  |true =>
   rw[h0,Bo] at hv;have CV:v.args=[]:=Cv (by simpa using hv);have e1:c+v.cu=c+1:=by rw[F7,CV];simp[ad.cA]
   rw[e1];simp only[kD,cN];rw[ad.aw v,CV,Av];apply tA;rfl;rfl;exact Tryz.func95;rfl;rfl;simp only[go_sem];rfl;refine tQ ?_;repeat first|with_reducible constructor|with_reducible refine tW rfl ?_|((with_reducible apply tG);(·kernel_rfl);(·(intro _ _;(repeat (apply BL;(·(intro _;simp only[FL,FO,GG,k5,pi,Ax,Ap,go_sem];rfl))));rfl));(·(simp only[go_sem];rfl)))
   (with_reducible apply tF);simp only[go_sem];rfl;rfl;refine tQ ?_;repeat first|with_reducible constructor|with_reducible refine tW rfl ?_|((with_reducible apply tG);(·kernel_rfl);(·(intro _ _;(repeat (apply BL;(·(intro _;simp only[FL,FO,h0,Ax,go_sem];rfl))));rfl));(·(simp only[go_sem];rfl)))
   (with_reducible apply tT);simp only[go_sem];rfl;rfl;refine tQ ?_;repeat first|with_reducible constructor|with_reducible refine tW rfl ?_|((with_reducible apply tG);(·kernel_rfl);(·(intro _ _;(repeat (apply BL;(·(intro _;simp only[FL,FO,Ax,go_sem];rfl))));rfl));(·(simp only[go_sem];rfl)))
   refine(finVal rfl rfl rfl rfl).trans ?_;simp only[FL,FO];rfl
  |false =>
   rw[h0,Bh] at hv;simp only[Ac,Cj] at hv;obtain⟨⟨⟨hn,a4X⟩,Hr⟩,DV⟩:=hv;have I2:(v.num != 0)=false:=by simp only[bne,hn,Ey]
   have wn:decide (((v.args.length:Nat):Int)>16)=false:=by simp;omega
   obtain⟨_,F6⟩:=a1w Hr;have NH:=λS=>OH v.bh Hr S
   have B9:=ad.p_ v;have e1:c+v.cu=c+1+ad.cA v.args:=by rw[F7];omega
   rw[e1];obtain⟨s0,s1,s4,s5,s6,B5,DP,Kv,C5,G2,Kq,Kp,Ko,BJ⟩:=aHl (bv:=bv) AP v.bh v.num v.args [] (c+1) (by simp only[Ai];omega) (by omega) (λy hy c2 DB=>ih y hy c2 (ad.xr DV y hy) (by have:=ad.m7 hy;omega) DB);simp only[Ai,Ap,kD] at BJ;simp only[kD,cN];rw[ad.aw v];apply tA;rfl;rfl;exact Tryz.func95;rfl;rfl;simp only[go_sem];rfl;refine tQ ?_;repeat first|with_reducible constructor|with_reducible refine tW rfl ?_|((with_reducible apply tG);(·kernel_rfl);(·(intro _ _;(repeat (apply BL;(·(intro _;simp only[FL,FO,GG,k5,pi,Ay,Ax,go_sem];rfl))));rfl));(·(simp only[go_sem];rfl)))
   (with_reducible apply tF);simp only[go_sem];rfl;rfl;refine tQ ?_;repeat first|with_reducible constructor|with_reducible refine tW rfl ?_|((with_reducible apply tG);(·kernel_rfl);(·(intro _ _;(repeat (apply BL;(·(intro _;simp only[FL,FO,h0,Ax,go_sem];rfl))));rfl));(·(simp only[go_sem];rfl)))
   (with_reducible apply tF);simp only[go_sem];rfl;rfl;refine tQ ?_;repeat first|with_reducible constructor|with_reducible refine tW rfl ?_|((with_reducible apply tG);(·kernel_rfl);(·(intro _ _;(repeat (apply BL;(·(intro _;simp only[FL,FO,I2,wn,Ax,go_sem];rfl))));rfl));(·(simp only[go_sem];rfl)))
   (with_reducible apply tF);simp only[go_sem];rfl;rfl;refine tQ ?_;repeat first|with_reducible constructor|with_reducible refine tW rfl ?_|((with_reducible apply tG);(·kernel_rfl);(·(intro _ _;(repeat (apply BL;(·(intro _;simp only[FL,FO,F6,Ax,go_sem];rfl))));rfl));(·(simp only[go_sem];rfl)))
   (with_reducible apply tF);simp only[go_sem];rfl;rfl;refine tQ ?_;repeat first|with_reducible constructor|with_reducible refine tW rfl ?_|((with_reducible apply tG);(·kernel_rfl);(·(intro _ _;(repeat (apply BL;(·(intro _;simp only[FL,FO,F6,NH,Ax,go_sem];rfl))));rfl));(·(simp only[go_sem];rfl)))
   (with_reducible apply tF);simp only[go_sem];rfl;rfl;refine tQ ?_;repeat first|with_reducible constructor|with_reducible refine tW rfl ?_|((with_reducible apply tG);(·kernel_rfl);(·(intro _ _;(repeat (apply BL;(·(intro _;simp only[FL,FO,Ay,Ax,go_sem];rfl))));rfl));(·(simp only[go_sem];rfl)))
   apply tL;exact BJ;refine tQ ?_;repeat first|with_reducible constructor|with_reducible refine tW rfl ?_|((with_reducible apply tG);(·kernel_rfl);(·(intro _ _;(repeat (apply BL;(·(intro _;simp only[go_sem];rfl))));rfl));(·(simp only[go_sem];rfl)))
   refine(finVal rfl rfl rfl rfl).trans ?_;simp only[FL,FO]
theorem aWA{O:List ai}{lo:Nat}(AP:lo<=O.length)(v:ad)(c:Nat)(hv:v.valid=true)(hs:v.size<AR)(hc:c+v.cu<=4000) :
  CF (.fn 95) [.val (.loc O.length 0),.val (.loc (O.length+1) 0)] (kD O lo (.box (cN v)) c)=some (.ret (.val (.bool true)),kD O lo (.box (cN v)) (c+v.cu)):=by
 have GG:Nat.ble lo (O.length+1)=true:=Ah (by omega);have F7:=v.tZ;have CR:=v.vr;have k5:IntKind.i64.wrap (((c:Nat):Int)+1)=((c+1:Nat):Int):=wI _ (by simp only[AR];omega);have pi:decide (((c+1:Nat):Int)>4000)=false:=by simp;omega
 rw[ad.a2K] at hv;cases h0:(v.bh==[]) with
 |true =>
  rw[h0,Bo] at hv;have CV:v.args=[]:=Cv (by simpa using hv);have e1:c+v.cu=c+1:=by rw[F7,CV];simp[ad.cA]
  rw[e1];simp only[kD,cN];rw[CV,Av];apply tA;rfl;rfl;exact Tryz.func95;rfl;rfl;simp only[go_sem];rfl;refine tQ ?_;repeat first|with_reducible constructor|with_reducible refine tW rfl ?_|((with_reducible apply tG);(·kernel_rfl);(·(intro _ _;(repeat (apply BL;(·(intro _;simp only[FL,FO,GG,k5,pi,Ax,Ap,go_sem];rfl))));rfl));(·(simp only[go_sem];rfl)))
  (with_reducible apply tF);simp only[go_sem];rfl;rfl;refine tQ ?_;repeat first|with_reducible constructor|with_reducible refine tW rfl ?_|((with_reducible apply tG);(·kernel_rfl);(·(intro _ _;(repeat (apply BL;(·(intro _;simp only[FL,FO,h0,Ax,go_sem];rfl))));rfl));(·(simp only[go_sem];rfl)))
  (with_reducible apply tT);simp only[go_sem];rfl;rfl;refine tQ ?_;repeat first|with_reducible constructor|with_reducible refine tW rfl ?_|((with_reducible apply tG);(·kernel_rfl);(·(intro _ _;(repeat (apply BL;(·(intro _;simp only[FL,FO,Ax,go_sem];rfl))));rfl));(·(simp only[go_sem];rfl)))
  refine(finVal rfl rfl rfl rfl).trans ?_;simp only[FL,FO];rfl
 |false =>
  rw[h0,Bh] at hv;simp only[Ac,Cj] at hv;obtain⟨⟨⟨hn,a4X⟩,Hr⟩,DV⟩:=hv;have I2:(v.num != 0)=false:=by simp only[bne,hn,Ey]
  have wn:decide (((v.args.length:Nat):Int)>16)=false:=by simp;omega
  obtain⟨_,F6⟩:=a1w Hr;have NH:=λS=>OH v.bh Hr S
  have B9:=ad.p_ v;have e1:c+v.cu=c+1+ad.cA v.args:=by rw[F7];omega
  rw[e1];obtain⟨s0,s1,s4,s5,s6,B5,DP,Kv,C5,G2,Kq,Kp,Ko,BJ⟩:=aHm AP v.args v.bh v.num v.args [] (c+1) rfl (by simp only[Ai];omega) (by omega) (λy hy c2 DB=>aWz AP y c2 (ad.xr DV y hy) (by have:=ad.m7 hy;omega) DB);simp only[Ai,Ap,kD] at BJ;simp only[kD,cN];apply tA;rfl;rfl;exact Tryz.func95;rfl;rfl;simp only[go_sem];rfl;refine tQ ?_;repeat first|with_reducible constructor|with_reducible refine tW rfl ?_|((with_reducible apply tG);(·kernel_rfl);(·(intro _ _;(repeat (apply BL;(·(intro _;simp only[FL,FO,GG,k5,pi,Ay,Ax,go_sem];rfl))));rfl));(·(simp only[go_sem];rfl)))
  (with_reducible apply tF);simp only[go_sem];rfl;rfl;refine tQ ?_;repeat first|with_reducible constructor|with_reducible refine tW rfl ?_|((with_reducible apply tG);(·kernel_rfl);(·(intro _ _;(repeat (apply BL;(·(intro _;simp only[FL,FO,h0,Ax,go_sem];rfl))));rfl));(·(simp only[go_sem];rfl)))
  (with_reducible apply tF);simp only[go_sem];rfl;rfl;refine tQ ?_;repeat first|with_reducible constructor|with_reducible refine tW rfl ?_|((with_reducible apply tG);(·kernel_rfl);(·(intro _ _;(repeat (apply BL;(·(intro _;simp only[FL,FO,I2,wn,Ax,go_sem];rfl))));rfl));(·(simp only[go_sem];rfl)))
  (with_reducible apply tF);simp only[go_sem];rfl;rfl;refine tQ ?_;repeat first|with_reducible constructor|with_reducible refine tW rfl ?_|((with_reducible apply tG);(·kernel_rfl);(·(intro _ _;(repeat (apply BL;(·(intro _;simp only[FL,FO,F6,Ax,go_sem];rfl))));rfl));(·(simp only[go_sem];rfl)))
  (with_reducible apply tF);simp only[go_sem];rfl;rfl;refine tQ ?_;repeat first|with_reducible constructor|with_reducible refine tW rfl ?_|((with_reducible apply tG);(·kernel_rfl);(·(intro _ _;(repeat (apply BL;(·(intro _;simp only[FL,FO,F6,NH,Ax,go_sem];rfl))));rfl));(·(simp only[go_sem];rfl)))
  (with_reducible apply tF);simp only[go_sem];rfl;rfl;refine tQ ?_;repeat first|with_reducible constructor|with_reducible refine tW rfl ?_|((with_reducible apply tG);(·kernel_rfl);(·(intro _ _;(repeat (apply BL;(·(intro _;simp only[FL,FO,Ay,Ax,go_sem];rfl))));rfl));(·(simp only[go_sem];rfl)))
  apply tL;exact BJ;refine tQ ?_;repeat first|with_reducible constructor|with_reducible refine tW rfl ?_|((with_reducible apply tG);(·kernel_rfl);(·(intro _ _;(repeat (apply BL;(·(intro _;simp only[go_sem];rfl))));rfl));(·(simp only[go_sem];rfl)))
  refine(finVal rfl rfl rfl rfl).trans ?_;simp only[FL,FO]
theorem Yd(v:ad)(hv:v.valid=true)(hs:v.size<AR)(hc:v.cu<=4000)(sto:AH)(AP:sto.lo<=sto.objs.length):CF (.fn 28) [.val v.enc] sto=some (.ret (.val (.int .i64 0)),sto):=by
 have Ni:=aWA (O:=sto.objs) AP v 0 hv hs (by omega);have GG:Nat.ble sto.lo (sto.objs.length+1)=true:=Ah (by omega);simp only[kD,cN,Int.natCast_zero] at Ni;rw[ad.aw v];exact G0
theorem c49(v:ad)(hv:v.valid=true)(hs:v.size<AR)(hc:v.cu<=4000)(sto:AH)(AP:sto.lo<=sto.objs.length):CF (.fn 49) [.val v.enc] sto=some (.ret (.val (.bool false)),sto):=by
 have Nj:=Yd v hv hs hc sto AP;rw[ad.aw v] at Nj ⊢;exact wk
theorem aG7(sto:AH)(AP:sto.lo<=sto.objs.length)(ys:List ad):∀(pre:List ad),(pre++ys).length<AR->(∀y∈ys,y.valid=true/\y.size<AR/\y.cu<=4000) ->
  ∃s0 s1 s4 s5 s7 s8 s9 BH,LP 132 (aN Tryz.f132 0) ⟨[.val (.slice ((pre++ys).map ad.enc)),.val (.func 49 []),.dead,.dead,.val (.int .i64 ((pre++ys).length:Nat)),.val (.int .i64 (pre.length:Nat)),.dead,.dead],sto⟩=some (.exit 0,⟨[s0,s1,s4,s5,s7,s8,s9,BH],sto⟩):=by
 induction ys with
 |nil =>
  intro pre h3 h2;have AL:=DK pre;simp only[Ao];iterate 8 apply Exists.intro
  refine tI rfl ?_;exact wk;all_goals exact .dead
 |cons y ys ih =>
  intro pre h3 h2;have AN:=cQ ad.enc pre ys y;have AL:=CQ pre ys y;have h0:=zI pre.length;have hw:=wL pre ys y h3;obtain⟨v1,v2,a7t⟩:=h2 y (by simp);have hc:=c49 y v1 v2 a7t sto AP;obtain⟨s0,s1,s4,s5,s7,s8,s9,BH,ih⟩:=ih (pre++[y]) (by simpa using h3) (λx hx=>h2 x (by simp[hx]));simp only[Aj,Al] at ih;rw[y.aw] at AN hc;refine⟨s0,s1,s4,s5,s7,s8,s9,BH,?_⟩;refine tI rfl ?_;exact wk
theorem c48(l:List ad)(hl:l.length<AR)(h:∀y∈l,y.valid=true/\y.size<AR/\y.cu<=4000)(sto:AH)(AP:sto.lo<=sto.objs.length):CF (.fn 48) [.val (.slice (l.map ad.enc)),.val (.func 49 [])] sto=some (.ret (.val (.bool false)),sto):=by
 have a8i:CF (.fn 132) [.val (.slice (l.map ad.enc)),.val (.func 49 [])] sto=some (.ret (.val (.int .i64 (-1))),sto):=by
  obtain⟨s0,s1,s4,s5,s7,s8,s9,BH,BJ⟩:=aG7 sto AP l [] (by simpa using hl) h;simp only[Ai,Ap] at BJ;apply tA;rfl;rfl;exact Tryz.func132;rfl;rfl;simp only[go_sem];rfl;refine tQ ?_;repeat first|with_reducible constructor|with_reducible refine tW rfl ?_|((with_reducible apply tG);(·kernel_rfl);(·(intro _ _;(repeat (apply BL;(·(intro _;simp only[Ay,go_sem];rfl))));rfl));(·(simp only[go_sem];rfl)))
  apply tL;exact BJ;exact wk
 exact wk
end Go.Proofs.YtoiocfngjchdiaaGreatDoor
