import Derived.Test.YtoiocfngjchdiaaGreatDoorT10
import Derived.Deep.Strs
import Derived.Lib.LaidTab
import Derived.Shelf.Vars
import Derived.OpenShut
import Derived.Test.YtoiocfngjchdiaaGreatDoorCards
import Derived.SevenTiedAt
import Derived.LaidOnce
import Derived.ProofKit
import Derived.Deep.DeepWitnessRowRef
import Derived.Lib.LaidIn
set_option linter.all false
set_option maxRecDepth 100000
set_option maxHeartbeats 8000000
namespace Go.Proofs.YtoiocfngjchdiaaGreatDoor
section
open Go.AM
abbrev Kj(l:List Int):Prop:=l.Pairwise (· < ·)
theorem x4(x:Int):∀t:Tr,Kj t.flat->Kj (t.put x).flat/\∀y,y∈(t.put x).flat↔y=x\/y∈t.flat
 |.leaf,_=>⟨by simp[Tr.put,Tr.flat,Kj],λy=>by simp[Tr.put,Tr.flat]⟩
 |.node l z r,h=>by
  simp only[Tr.flat] at h;obtain⟨hl,ID,CW⟩:=Dh.1 h;obtain⟨hz,hr⟩:=Bb.1 ID;by_cases h1:x<z
  ·obtain⟨i1,i2⟩:=x4 x l hl
   have e:(Tr.node l z r).put x=.node (l.put x) z r:=by simp[Tr.put,h1]
   rw[e];simp only[Tr.flat];refine⟨Dh.2 ⟨i1,ID,λa ha b hb=>?_⟩,λy=>?_⟩
   ·rcases(i2 a).1 ha with rfl|ha
    ·rcases As.1 hb with rfl|hb
     ·exact h1
     ·have:=hz b hb;omega
    ·exact CW a ha b hb
   ·simp only[Bk,As,i2,or_assoc]
  ·by_cases h2:z<x
   ·obtain⟨i1,i2⟩:=x4 x r hr
    have e:(Tr.node l z r).put x=.node l z (r.put x):=by simp[Tr.put,h1,h2]
    rw[e];simp only[Tr.flat];refine⟨Dh.2 ⟨hl,Bb.2 ⟨λb hb=>?_,i1⟩,λa ha b hb=>?_⟩,λy=>?_⟩
    ·rcases(i2 b).1 hb with rfl|hb
     ·exact h2
     ·exact hz b hb
    ·have Ik:=CW a ha z (by simp)
     rcases As.1 hb with rfl|hb
     ·exact Ik
     ·rcases(i2 b).1 hb with rfl|hb
      ·omega
      ·exact CW a ha b (by simp[hb])
    ·simp only[Bk,As,i2]
     constructor
     ·rintro(h|h|h|h)<;>simp[h]
     ·rintro(h|h|h|h)<;>simp[h]
   ·have e:(Tr.node l z r).put x=.node l z r:=by simp[Tr.put,h1,h2]
    have e2:x=z:=by omega
    rw[e];refine⟨h,λy=>⟨.inr,?_⟩⟩
    rintro(rfl|h)
    ·simp[Tr.flat,e2]
    ·exact h
theorem a3I:∀(a:List Int)(t:Tr),Kj t.flat->Kj (a.foldl (λt x=>t.put x) t).flat/\∀y,y∈(a.foldl (λt x=>t.put x) t).flat↔y∈t.flat\/y∈a
 |[],t,h=>⟨h,by simp⟩
 |x::a,t,h=>by
  obtain⟨h1,h2⟩:=x4 x t h;obtain⟨i1,i2⟩:=a3I a (t.put x) h1;refine⟨i1,λy=>(i2 y).trans ?_⟩;rw[h2,As];constructor
  ·rintro((h|h)|h)<;>simp[h]
  ·rintro(h|h|h)<;>simp[h]
theorem vt:∀{a b:List Int},a.Perm b->GI a->GI b->a=b
 |[],b,h,_,_=>(List.nil_perm.1 h).symm
 |x::a,[],h,_,_=>by simp at h
 |x::a,y::b,h,ha,hb=>by
  obtain⟨a1,a2⟩:=Bb.1 ha;obtain⟨b1,b2⟩:=Bb.1 hb
  have h1:y<=x:=by
   rcases As.1 (h.mem_iff.1 (by simp:x∈x::a)) with rfl|h
   ·exact Gb _
   ·exact b1 x h
  have h2:x<=y:=by
   rcases As.1 (h.mem_iff.2 (by simp:y∈y::b)) with rfl|h
   ·exact Gb _
   ·exact a1 y h
  obtain rfl:x=y:=by omega
  rw[vt h.cons_inv a2 b2]
theorem zz:∀{a b:List Int},Kj a->Kj b->(∀y,y∈a↔y∈b)->a=b
 |[],[],_,_,_=>rfl
 |[],y::b,_,_,h=>absurd ((h y).2 (by simp)) (by simp)
 |x::a,[],_,_,h=>absurd ((h x).1 (by simp)) (by simp)
 |x::a,y::b,ha,hb,h=>by
  obtain⟨a1,a2⟩:=Bb.1 ha;obtain⟨b1,b2⟩:=Bb.1 hb
  have h1:y<=x:=by
   rcases As.1 ((h x).1 (by simp)) with rfl|h
   ·exact Gb _
   ·exact Int.le_of_lt (b1 x h)
  have h2:x<=y:=by
   rcases As.1 ((h y).2 (by simp)) with rfl|h
   ·exact Gb _
   ·exact Int.le_of_lt (a1 y h)
  obtain rfl:x=y:=by omega
  rw[zz a2 b2 λz=>⟨λhz=>?_,λhz=>?_⟩]
  ·rcases As.1 ((h z).1 (by simp[hz])) with rfl|h
   ·have:=a1 z hz;omega
   ·exact h
  ·rcases As.1 ((h z).2 (by simp[hz])) with rfl|h
   ·have:=b1 z hz;omega
   ·exact h
def dd(p:Int):List Int->List Int
 |[]=>[]
 |y::t=>bif y==p then dd p t else y::dd y t
theorem Wp:∀(l:List Int)(p:Int),GI (p::l)->Kj (p::dd p l)/\∀y,y∈p::dd p l↔y∈p::l
 |[],p,_=>⟨by simp[dd,Kj],λy=>by simp[dd]⟩
 |y::t,p,h=>by
  obtain⟨h1,h2⟩:=Bb.1 h;cases e:y==p with
  |true =>
   obtain rfl:y=p:=by simpa using e
   obtain⟨i1,i2⟩:=Wp t y h2;have e2:dd y (y::t)=dd y t:=by simp only[dd,e,Bo]
   rw[e2];exact⟨i1,λz=>(i2 z).trans (by simp)⟩
  |false =>
   have BA:y≠p:=by simpa using e
   have hle:=h1 y (by simp);obtain⟨i1,i2⟩:=Wp t y h2;have e2:dd p (y::t)=y::dd y t:=by simp only[dd,e,Bh]
   rw[e2];refine⟨Bb.2 ⟨λz hz=>?_,i1⟩,λz=>by rw[As,i2,<-As]⟩;rcases As.1 hz with rfl|hz
   ·omega
   ·have:=(Bb.1 i1).1 z hz;omega
theorem dm(p:Int):∀l:List Int,(dd p l).length<=l.length
 |[]=>Ae _
 |y::t=>by
  simp only[dd];have h1:=dm p t;have h2:=dm y t;cases y==p<;>simp only[Bo,Bh,Ak]<;>omega
theorem ic{A:List Int}:∀{m:List Int},m.Perm A->GI m->(dX A).flat=match m with|[]=>[]|x::t=>x::dd x t
 |[],h,_=>by rw[List.nil_perm.1 h];rfl
 |x::t,h,hs=>by
  obtain⟨i1,i2⟩:=a3I A .leaf (by simp[Tr.flat,Kj]);obtain⟨j1,j2⟩:=Wp t x hs;refine zz i1 j1 λy=>(i2 y).trans ?_
  rw[j2,h.mem_iff];simp[Tr.flat]
theorem a7F{A m:List Int}(h:m.Perm A)(v:Int):dN v m=dN v A:=h.countP_eq _
end
section
open Go.AM
variable [h_]
theorem a0f(l:List ad):(aM l).enc=.agg [.str (aM l).bh,.int .i64 0,.slice ((aM l).args.map ad.enc)]:=by
 rw[ad.aw];cases l<;>rfl
theorem aNv(sto:AH)(l:List ad):∀out:List ad,out.length+l.length<2000->(∀v∈l,v.size<AR) ->
  ∃s0 s2 s3 BZ CP RU,LP 16 (aN Tryz.f16 0) ⟨[.dead,.box [.val (.str (aM l).bh),.val (.int .i64 0),.val (.slice ((aM l).args.map ad.enc))],.dead,.dead,.own 3 (out.map ad.enc),.dead,.dead,.dead],sto⟩ =
   some (.exit 0,⟨[s0,.box [.val (.str [78,105,108]),.val (.int .i64 0),.val (.slice [])],s2,s3,.own 3 ((out++l).map ad.enc),BZ,CP,RU],sto⟩):=by
 induction l with
 |nil =>
  intro out ho hs;have e1:(aM []).bh=[78,105,108]:=rfl;have e2:(aM []).args.map ad.enc=[]:=rfl;rw[Ao,e1,e2];iterate 6 apply Exists.intro
  refine tI rfl ?_;exact BP;all_goals exact .dead
 |cons a l ih =>
  intro out ho hs;have Iu:(((out.length:Nat):Int)==2000)=false:=by simp;omega
  have hr:Nat.ble (out.length+1) room=true:=by apply Ah;simp only[room];omega
  have emap:(out++[a]).map ad.enc=out.map ad.enc++[a.enc]:=by simp
  have PZ:=VI a ⟨sto.objs,sto.objs.length⟩ (hs a (by simp));obtain⟨s0,s2,s3,BZ,CP,RU,ih⟩:=ih (out++[a]) (by simp only[Bc,Ak,Ap] at ho ⊢;omega) (λv hv=>hs v (by simp[hv]));rw[emap] at ih;simp only[Aj,Al] at ih;have e1:(aM (a::l)).bh=[67,111,110,115]:=rfl;have e2:(aM (a::l)).args.map ad.enc=[a.enc,(aM l).enc]:=rfl;rw[e1,e2,a0f l];rw[a.aw] at PZ ih ⊢;clear e1 e2 emap hs ho;refine⟨s0,s2,s3,BZ,CP,RU,?_⟩;refine tI rfl ?_;exact BP
theorem c16(l:List ad)(hl:l.length<2000)(hs:∀v∈l,v.size<AR)(sto:AH):CF (.fn 16) [.val (aM l).enc] sto=some (.ret (.aj [.slice (l.map ad.enc),.bool true]),sto):=by
 obtain⟨s0,s2,s3,BZ,CP,RU,BJ⟩:=aNv sto l [] (by simpa using hl) hs;simp only[Ai,Av] at BJ;rw[a0f];clear hs hl;exact BP
def vE(n:Int):ae:=.agg [.str [],.int .i64 n,.slice []]
theorem aNx(sto:AH)(ys:List Int):∀(pre:List Int),(pre++ys).length+1<AR ->
  ∃s0 s2 s4 s8,LP 18 (aN Tryz.f18 0) ⟨[.val (.slice ((pre++ys).map vE)),.dead,.own 1 (pre.map fO),.val (.int .i64 (pre.length:Nat)),.dead],sto⟩=some (.exit 0,⟨[s0,s2,.own 1 ((pre++ys).map fO),s4,s8],sto⟩):=by
 induction ys with
 |nil =>
  intro pre h3;have AL:=DK pre;simp only[Ao];iterate 4 apply Exists.intro
  refine tI rfl ?_;exact BP;all_goals exact .dead
 |cons y ys ih =>
  intro pre h3;have AN:=cQ vE pre ys y;have AL:=CQ pre ys y;have h0:=zI pre.length;have hw:=wL pre ys y (by omega);have hr:Nat.ble (pre.length+1) room=true:=by apply Ah;simp only[room];simp only[Bc,Ak,AR] at h3;omega
  have emap:(pre++[y]).map fO=pre.map fO++[.int .i64 y]:=by simp[fO]
  obtain⟨s0,s2,s4,s8,ih⟩:=ih (pre++[y]) (by simpa using h3);rw[emap] at ih;simp only[Aj,Al] at ih;simp only[vE] at AN;refine⟨s0,s2,s4,s8,?_⟩;refine tI rfl ?_;exact BP
theorem Yf(l:List Int)(hl:l.length+1<AR)(sto:AH):CF (.fn 18) [.val (.slice (dv l))] sto=some (.ret (.val (.slice (l.map fO))),sto):=by
 obtain⟨s0,s2,s4,s8,BJ⟩:=aNx sto l [] (by simpa using hl);have e0:([]:List Int).map fO=[]:=rfl;simp only[Ai,Ap,e0] at BJ;have e1:((0:Nat):Int)=0:=rfl;rw[e1] at BJ;show CF (.fn 18) [.val (.slice (l.map vE))] sto=_;exact BP
theorem aDf(t:Tr):tH t=.nl/\t.flat=[]\/tH t=.own 3 (dv t.flat):=by
 cases t with
 |leaf=>exact .inl ⟨rfl,rfl⟩
 |node l x r=>exact .inr rfl
theorem sR(l:List Int):dv l=(l.map bL).map ad.enc:=by simp[dv,wQ,Dw]
theorem a6x(l:List ad):(aM l).enc=.agg [.str (aM l).bh,.int .i64 (aM l).num,.slice ((aM l).args.map ad.enc)]:=ad.aw _
theorem c89(t:Tr)(sto:AH)(hb:t.nodes<AR)(AP:sto.lo<=sto.objs.length):CF (.fn 89) [.val (.agg []),.val (.slice [t.val.enc])] sto=some (.ret (.val (aM (t.flat.map bL)).enc),sto):=by
 have h:=aR3 t sto hb;have IK:=Yc (t.flat.map bL) (by rw[Ay,kV];exact hb) sto AP;rw[<-sR] at IK;rw[ad.aw t.val] at h ⊢;rw[a6x] at IK ⊢;clear hb AP;rcases aDf t with⟨e1,e2⟩|e1
 ·rw[e1] at h
  rw[e2] at IK ⊢;simp only[dv,Av] at IK ⊢;exact BP
 ·rw[e1] at h
  exact BP
theorem aSD(A:List Int)(sto:AH)(GW:∀v,CF (.fn 17) [.val (.slice (A.map fO)),.val (.int .i64 v)] sto=some (.ret (.val (.int .i64 (dN v A:Nat))),sto))(ys:List Int):∀(q:List Int)(p:Int)(d:List Int),(q++p::ys).length<=30->d.length<=q.length+1->GI (p::ys)->(∀v,dN v (q++p::ys)=dN v A) ->
  ∃s0 s2 s4 s5 s6 s8 s9 BK BU FJ D9 B5 BZ CD FI CP BT DG CN G2 GQ GO GN GM GL,LP 5 (aN Tryz.f5 0) ⟨[.dead,.dead,.val (.bool true),.val (.slice (A.map fO)),.dead,.dead,.dead,.dead,.dead,.dead,.dead,.dead,.dead,.dead,.dead,.val (.slice ((q++p::ys).map vE)),.dead,.val (.slice ((d++dd p ys).map vE)),.dead,.val (.int .i64 (d.length:Nat)),.val (.int .i64 ((q++[p]).length:Nat)),.dead,.dead,.dead,.dead,.dead,.dead,.dead],sto⟩ =
   some (.exit 0,⟨[s0,s2,.val (.bool true),s4,s5,s6,s8,s9,BK,BU,FJ,D9,B5,BZ,CD,FI,CP,.val (.slice ((d++dd p ys).map vE)),BT,.val (.int .i64 ((d++dd p ys).length:Nat)),DG,CN,G2,GQ,GO,GN,GM,GL],sto⟩):=by
 induction ys with
 |nil =>
  intro q p d hl hd hs ht;have AL:decide ((((q++[p]).length:Nat):Int)<((q++[p]).length:Nat))=false:=by simp
  simp only[dd,Ao];iterate 25 apply Exists.intro
  refine tI rfl ?_;exact BP;all_goals exact .dead
 |cons y ys ih =>
  intro q p d hl hd hs ht;obtain⟨hp,JG⟩:=Bb.1 hs;have hpy:=hp y (by simp);have hlen:(q++p::y::ys).length=q.length+(ys.length+2):=by simp
  have I0:(q++[p]).length=q.length+1:=by simp
  have AL:decide ((((q++[p]).length:Nat):Int)<((q++p::y::ys).length:Nat))=true:=by rw[hlen,I0];simp;omega
  have a5V:decide (((q.length:Nat):Int)<((q++p::y::ys).length:Nat))=true:=by rw[hlen];simp;omega
  have h0:=zI (q++[p]).length;have Y1:=zI q.length
  have Ru:((q++p::y::ys).map vE)[(((q++[p]).length:Nat):Int).toNat]?=some (vE y):=by
   have:=cQ vE (q++[p]) ys y
   simpa only[Aj,Al] using this
  have EF:=cQ vE q (y::ys) p
  have Jr:IntKind.i64.wrap ((((q++[p]).length:Nat):Int)-1)=((q.length:Nat):Int):=by
   rw[I0];rw[hlen] at hl;simp[IntKind.wrap,IntKind.bits,IntKind.signed];omega
  have a8v:decide ((((q++[p]).length:Nat):Int)>0)=true:=by rw[I0];simp<;>omega
  have hz0:((((q++[p]).length:Nat):Int)==0)=false:=by rw[I0];simp;omega
  have pi:decide (p>y)=false:=by simp;omega
  have Ux:=Yf (q++p::y::ys) (by simp only[AR];omega) sto;have hv:dv (q++p::y::ys)=(q++p::y::ys).map vE:=rfl;rw[hv] at Ux;have NG:=VJ (q++p::y::ys) y (by simp only[AR];omega) sto;have a5d:=GW y;rw[ht y] at NG;have BA:(((dN y A:Nat):Int) != ((dN y A:Nat):Int))=false:=Cd _
  have hw:IntKind.i64.wrap ((((q++[p]).length:Nat):Int)+1)=(((q++[p])++[y]).length:Nat):=by
   rw[wI _ (by rw[hlen] at hl;rw[I0];simp only[AR];omega)];simp<;>omega
  have ea:q++p::y::ys=(q++[p])++y::ys:=by simp
  have ih:=λd h1=>ih (q++[p]) y d (by rw[<-ea];exact hl) h1 JG (λv=>by rw[<-ea];exact ht v)
  simp only[<-ea] at ih;simp only[vE] at Ru EF;cases e:y==p with
  |true =>
   obtain rfl:y=p:=by simpa using e
   have Rl:(y != y)=false:=Cd _;have e2:dd y (y::ys)=dd y ys:=by simp only[dd,e,Bo]
   rw[e2];obtain⟨s0,s2,s4,s5,s6,s8,s9,BK,BU,FJ,D9,B5,BZ,CD,FI,CP,BT,DG,CN,G2,GQ,GO,GN,GM,GL,ih⟩:=ih d (by omega);clear GW ht hs JG hp hl hd hlen I0 ea hv e2;refine⟨s0,s2,s4,s5,s6,s8,s9,BK,BU,FJ,D9,B5,BZ,CD,FI,CP,BT,DG,CN,G2,GQ,GO,GN,GM,GL,?_⟩;refine tI rfl ?_;exact BP
  |false =>
   have Rl:(p != y)=true:=by
    have:y≠p:=by simpa using e
    simp only[bne_iff_ne,ne_eq];exact λh=>this h.symm
   have e2:dd p (y::ys)=y::dd y ys:=by simp only[dd,e,Bh]
   rw[e2];have Iu:decide (((d.length:Nat):Int)>=((d++y::dd y ys).length:Nat))=false:=by simp;omega
   have PN:=CQ d (dd y ys) y;have h03:=zI d.length;have LM:=cQ vE d (dd y ys) y
   have Re:=wL d (dd y ys) y (by
    have:=dm y ys
    simp only[Bc,Ak,AR];rw[hlen] at hl;omega)
   have hyy:(y != y)=false:=Cd _;have a0G:d++[y]++dd y ys=d++y::dd y ys:=by simp
   have ih:=ih (d++[y]) (by simp;omega);rw[a0G] at ih;obtain⟨s0,s2,s4,s5,s6,s8,s9,BK,BU,FJ,D9,B5,BZ,CD,FI,CP,BT,DG,CN,G2,GQ,GO,GN,GM,GL,ih⟩:=ih;simp only[vE] at LM;clear GW ht hs JG hp hl hd hlen I0 ea hv e2 a0G;refine⟨s0,s2,s4,s5,s6,s8,s9,BK,BU,FJ,D9,B5,BZ,CD,FI,CP,BT,DG,CN,G2,GQ,GO,GN,GM,GL,?_⟩;refine tI rfl ?_;exact BP
theorem aNF(A:List Int)(sto:AH)(GW:∀v,CF (.fn 17) [.val (.slice (A.map fO)),.val (.int .i64 v)] sto=some (.ret (.val (.int .i64 (dN v A:Nat))),sto))(hA:A.length<=30):∀(m:List Int),m.Perm A->GI m ->
  ∃s0 s2 s4 s5 s6 s8 s9 BK BU FJ D9 B5 BZ CD FI CP BT DG CN G2 GQ GO GN GM GL,LP 5 (aN Tryz.f5 0) ⟨[.dead,.dead,.val (.bool true),.val (.slice (A.map fO)),.dead,.dead,.dead,.dead,.dead,.dead,.dead,.dead,.dead,.dead,.dead,.val (.slice (m.map vE)),.dead,.val (.slice ((dX A).flat.map vE)),.dead,.val (.int .i64 0),.val (.int .i64 0),.dead,.dead,.dead,.dead,.dead,.dead,.dead],sto⟩ =
   some (.exit 0,⟨[s0,s2,.val (.bool true),s4,s5,s6,s8,s9,BK,BU,FJ,D9,B5,BZ,CD,FI,CP,.val (.slice ((dX A).flat.map vE)),BT,.val (.int .i64 ((dX A).flat.length:Nat)),DG,CN,G2,GQ,GO,GN,GM,GL],sto⟩)
 |[],hm,hs=>by
  have e:=ic hm hs;simp only at e;rw[e];have AL:decide ((0:Int)<((0:Nat):Int))=false:=rfl;simp only[Av,Ap,show((0:Nat):Int)=0 from rfl];iterate 25 apply Exists.intro
  refine tI rfl ?_;exact BP;all_goals exact .dead
 |x::t,hm,hs=>by
  have e:=ic hm hs;simp only at e;rw[e];have hl:=hm.length_eq;have hT:=a7F hm;obtain⟨s0,s2,s4,s5,s6,s8,s9,BK,BU,FJ,D9,B5,BZ,CD,FI,CP,BT,DG,CN,G2,GQ,GO,GN,GM,GL,BJ⟩:=aSD A sto GW t [] x [x] (by simp only[Ai,hl];exact hA) (by simp) hs hT;have e1:[x]++dd x t=x::dd x t:=rfl;have e2:(([x]:List Int).length:Int)=1:=rfl;have e3:(([]++[x]:List Int).length:Int)=1:=rfl;rw[e1,e2,e3,Ai] at BJ;have Ux:=Yf (x::t) (by simp only[AR];omega) sto;have hv:dv (x::t)=(x::t).map vE:=rfl;rw[hv] at Ux;have NG:=VJ (x::t) x (by simp only[AR];omega) sto;have a5d:=GW x;rw[hT x] at NG;have BA:(((dN x A:Nat):Int) != ((dN x A:Nat):Int))=false:=Cd _;have Ru:((x::t).map vE)[(0:Int).toNat]?=some (.agg [.str [],.int .i64 x,.slice []]):=rfl;have EF:((x::dd x t).map vE)[(0:Int).toNat]?=some (.agg [.str [],.int .i64 x,.slice []]):=rfl;have KA:decide ((0:Int)<((x::t).length:Nat))=true:=by simp<;>omega
  have a5V:decide ((0:Int)<((x::dd x t).length:Nat))=true:=by simp<;>omega
  have Iu:decide ((0:Int)>=((x::dd x t).length:Nat))=false:=by simp<;>omega
  have xf:(x != x)=false:=Cd _;have hw0:IntKind.i64.wrap (0+1)=1:=rfl;generalize x::t=M at *;generalize x::dd x t=S at *;clear GW e hm hs hl hT e1 e2 e3 hv;refine⟨s0,s2,s4,s5,s6,s8,s9,BK,BU,FJ,D9,B5,BZ,CD,FI,CP,BT,DG,CN,G2,GQ,GO,GN,GM,GL,?_⟩;refine tI rfl ?_;exact BP
theorem a0o(l:List Int):ad.f_ (l.map bL)<=4*l.length:=by
 induction l with
 |nil=>simp[ad.f_]
 |cons x l ih=>simp only[Ba,ad.f_,ad.size,bL,Ak,Ap];omega
theorem aGW(l:List Int):(l.map bL).map ad.enc=l.map vE:=(sR l).symm
theorem aR5(l:List Int)(hl:l.length<=30)(sto:AH):CF (.fn 16) [.val (aM (l.map bL)).enc] sto=some (.ret (.aj [.slice (l.map vE),.bool true]),sto):=by
 have h:=c16 (l.map bL) (by simp;omega) (λv hv=>by
  obtain⟨x,_,rfl⟩:=Cn.1 hv;simp[ad.size,ad.f_,bL,AR]) sto
 rwa [aGW] at h
theorem aVV(l:List Int)(hl:l.length<=30)(sto:AH):CF (.fn 10) [.val (aM (l.map bL)).enc,.val (aM (l.map bL)).enc] sto=some (.ret (.val (.bool true)),sto):=by
 have hs:(aM (l.map bL)).size<AR:=by
  have h1:=pG (l.map bL);have h2:=a0o l;rw[Ay] at h1;simp only[AR];omega
 have h:=c10 (aM (l.map bL)) (aM (l.map bL)) sto hs hs
 rwa [(ad.a5i _ _).2 rfl] at h
theorem aBR(A:List Int)(m:List Int)(hm:m.Perm A)(hs:GI m):(dX A).flat.length<=A.length:=by
 rw[ic hm hs,<-hm.length_eq];cases m with
 |nil=>simp
 |cons x t=>simp only[Ak];have:=dm x t;omega
theorem c5(A0:List Int)(hA:A0.length<AR)(sto:AH)(AP:sto.lo<=sto.objs.length){m:List Int}(hm:m.Perm (A0.take 30))(hs:GI m)(n1 n2 n3 n4:Nat)
  (h1:CF (.fn 15) [.val (.str lM),.val (.slice [(aM ((A0.take 30).map bL)).enc])] sto=some (.ret (.aj [(aM (m.map bL)).enc,.int .i64 (n1:Nat),.bool true]),sto))
  (h2:CF (.fn 15) [.val (.str iR),.val (.slice [(aM ((A0.take 30).map bL)).enc])] sto=some (.ret (.aj [(aM (m.map bL)).enc,.int .i64 (n2:Nat),.bool true]),sto))
  (h3:CF (.fn 15) [.val (.str iS),.val (.slice [(aM ((A0.take 30).map bL)).enc])] sto=some (.ret (.aj [(aM (m.map bL)).enc,.int .i64 (n3:Nat),.bool true]),sto))
  (h4:CF (.fn 15) [.val (.str qN),.val (.slice [(aM ((A0.take 30).map bL)).enc])] sto=some (.ret (.aj [(dX (A0.take 30)).val.enc,.int .i64 (n4:Nat),.bool true]),sto))
  (h8:CF (.fn 8) [.val (.str jP),.val (.slice [(dX (A0.take 30)).val.enc])] sto=some (.ret (.aj [(aM ((dX (A0.take 30)).flat.map bL)).enc,.int .i64 0]),sto)) :
  CF (.fn 5) [.val (.slice (A0.map fO))] sto=some (.ret (.val (.bool true)),sto):=by
 have h6:CF (.fn 6) [] sto=some (.ret (.val (.bool true)),sto):=c6 sto;have h11:=c11 A0 hA sto;have a1k:(A0.take 30).length<=30:=by simp;omega
 generalize A0.take 30=A at *;have h13:=c13 A (by simp only[AR];omega) sto;rw[sR] at h13;have h12:=c12 (A.map bL) sto (by have:=a0o A;simp only[Ay,AR];omega) AP;have hl:=hm.length_eq;have hT:=aBR A m hm hs;have a8l:=aR5 m (by omega) sto;have a8m:=aR5 (dX A).flat (by omega) sto;have h10:=aVV m (by omega) sto;have GW:=λv=>VJ A v (by simp only[AR];omega) sto
 obtain⟨s0,s2,s4,s5,s6,s8,s9,BK,BU,FJ,D9,B5,BZ,CD,FI,CP,BT,DG,CN,G2,GQ,GO,GN,GM,GL,BJ⟩:=aNF A sto GW a1k m hm hs;have BA:(((m.length:Nat):Int) != ((A.length:Nat):Int))=false:=by rw[hl];exact Cd _
 have hee:((((dX A).flat.length:Nat):Int)==((dX A).flat.length:Nat))=true:=Cf _;simp only[lM,iR,iS,qN,jP] at h1 h2 h3 h4 h8;generalize(dX A).flat=S at *;generalize(dX A).val=T at *;generalize aM (m.map bL)=L at *;generalize aM (S.map bL)=D at *;generalize aM (A.map bL)=B at *;rw[L.aw,T.aw,D.aw,B.aw] at *;clear GW hm hs hl hT a1k hA;exact BP
end
section
open Go.AM Go.RowKit
abbrev TJ(a:ah):ah:=.mk [84,114,101,101] [a]
theorem wM[h_]:∀t:Tr,jB (TJ Od) t.val
 |.leaf=>.leaf Od
 |.node l x r=>.node Od _ _ _ (wM l) (.var _) (wM r)
theorem aG0:eC [76,101,97,102]=some 3:=by kernel_rfl
theorem aG1:eC [78,111,100,101]=some 3:=by kernel_rfl
theorem yQ:∀t:Tr,t.val.valid=true
 |.leaf=>by simp only[Tr.val,ad.valid,ad.qt,mD,aG0];rfl
 |.node l x r=>by
  have h1:=yQ l;have h2:=yQ r;simp only[Tr.val,ad.valid,ad.qt,bL,h1,h2,mD,aG1];rfl
theorem gb:∀t:Tr,t.val.size<=30*t.nodes+5
 |.leaf=>by simp[Tr.val,ad.size,ad.f_,Tr.nodes]
 |.node l x r=>by
  have h1:=gb l;have h2:=gb r;simp only[Tr.val,ad.size,ad.f_,bL,Tr.nodes,Ak,Ap];omega
theorem df:∀t:Tr,t.val.cu=3*t.nodes+1
 |.leaf=>rfl
 |.node l x r=>by
  have h1:=df l;have h2:=df r;simp only[Tr.val,ad.cu,ad.cA,bL,Tr.nodes,h1,h2];omega
theorem uk:∀t:Tr,t.val.km=true
 |.leaf=>rfl
 |.node l x r=>by
  have h1:=uk l;have h2:=uk r;simp only[Tr.val,ad.km,ad.sH,bL,h1,h2];rfl
theorem gz:∀t:Tr,jf t.val=MP t
 |.leaf=>rfl
 |.node l x r=>by
  have h1:=gz l;have h2:=gz r;show au.mk jI [jf l.val,.num x,jf r.val]=_;rw[h1,h2];rfl
theorem a2N:∀(a:List Int)(t:Tr),(a.foldl (λt x=>t.put x) t).nodes<=t.nodes+a.length
 |[],t=>Ae _
 |x::a,t=>by
  have h1:=a2N a (t.put x);have h2:=oC x t;simp only[Ef,Ak];omega
theorem a6P(a:List Int):(dX a).nodes<=a.length:=by
 have:=a2N a .leaf
 simp only[Tr.nodes,Bs] at this;exact this
theorem aTq(t:Tr)(ht:t.nodes<=30)(O:List ai)(lo:Nat)(AP:lo<=O.length) :
  Row Tryz.prog ans 8 [.val (.str jP),.val (.slice [t.val.enc])] ⟨O,lo⟩ (.ret (.aj [(aM (t.flat.map bL)).enc,.int .i64 0])) ⟨O,lo⟩:=by
 have hl:=@kV A0 t;have IF:=gb t;have IE:=@ga A0 t.flat;have hc:=de t.flat;have hb:(aM (t.flat.map bL)).size<AR:=by simp only[AR];omega
 have hS:lo<=(O++[zV,zE]).length:=by simp;omega
 refine @aW9 A0 (@CF A0) (λB0=>qC (Qy B0)) ((Qy 0).drawn _ mN) jP [t.val.enc] (aM (t.flat.map bL)) 89 true ((aM (t.flat.map bL)).cu:Nat) (by kernel_rfl) rfl
  (kI.a1V Qy (@c89 A0 t ⟨[],0⟩ (by simp only[AR];omega) (Ae _))) (by rw[hc];simp;omega) O lo AP ?_ (@c27 A0 _ ⟨O++[zV,zE],lo⟩ hb (by omega)) (@Yd A0 _ (@yP A0 _) hb (by omega) ⟨O++[zV,zE],lo⟩ hS) (@VI A0 _ ⟨O++[zV,zE],lo⟩ hb)
 exact @Ye A0 jP [TJ Od] (La Od) (by kernel_rfl) rfl [t.val] rfl (by simp[AR]) (λy hy=>by
  rw[Ct.1 hy];exact⟨yQ t,by simp only[AR];omega,by rw[df];omega⟩) (λi t' v h1 h2=>by
  match i with
  |0=>cases h1;cases h2;exact @wM A0 t
  |i+1=>simp at h1) ⟨O++[zV,zE],lo⟩ hS
theorem aEV{nm Xx:List UInt8}{x:ad}(h:lV nm [x]=lV Xx [x]):nm=Xx:=by
 simp only[lV,pf,Fa,Ba,Av,Dj,Slot.val.injEq,ae.agg.injEq,ae.slice.injEq,List.append_cancel_left_eq,Fx] at h;simp only[ax.enc,cU,hJ,uD,gk,af.ce,Ba,Av,ae.agg.injEq,Dj,ae.slice.injEq,ae.str.injEq,Fx,Fw] at h;simp[uD,af.args,af.ce] at h;exact h.2.2.2.2.1
open Classical in
@[reducible] noncomputable def A2(x t m d:ad)(n1 n2 n3 n4:Nat):h_ :=
 ⟨λargs=>if args=[.val (.str jP),.val (.slice [t.enc])] then some (some (.ret (.aj [d.enc,.int .i64 0]))) else some none,
  λargs=>if args=lV lM [x] then some (some (pM m n1)) else if args=lV iR [x] then some (some (pM m n2)) else if args=lV iS [x] then some (some (pM m n3)) else if args=lV qN [x] then some (some (pM t n4)) else some none,
  .agg [.slice (c7.map ax.enc)]⟩
theorem aBG(x:List Int)(hx:x.length<=30):∃(m:List Int)(n1 n2 n3 n4:Nat),m.Perm x/\GI m/\n1<=200000/\n2<=200000/\n3<=200000/\n4<=200000 /\
  Ev (hJ lM [aM (x.map bL)]) qo (jf (aM (m.map bL))) n1/\Ev (hJ iR [aM (x.map bL)]) qo (jf (aM (m.map bL))) n2/\Ev (hJ iS [aM (x.map bL)]) qo (jf (aM (m.map bL))) n3/\Ev (hJ qN [aM (x.map bL)]) qo (jf (dX x).val) n4:=by
 have xf:x.length*x.length<=30*30:=Ge hx hx;obtain⟨m,a,h1,h2,h3,h4⟩:=aDG x;obtain⟨m',b,k1,k2,k3,k4⟩:=x5 x.length x (Ae _);obtain rfl:m'=m:=vt (k1.trans h1.symm) k2 h2;obtain⟨c,t1,t2⟩:=aIt x hx
 obtain⟨b',BC,q⟩:∃b',b'<=100000/\Ev vH (.cons [108] (D6 x) (En 41)) (D6 m') b':=by
  by_cases h0:x=[]
  ·subst h0
   obtain rfl:=List.perm_nil.1 h1;exact⟨_,by decide,C8 (AX aY) (by decide) rfl (AX aY)⟩
  ·obtain⟨m2,n,r1,r2,r3,r4⟩:=w9 5 x (by omega) h0
   obtain rfl:m2=m':=vt (r1.trans h1.symm) r2 h2;exact⟨n,by omega,r4⟩
 rw[<-xS m'] at h4 k4 q;rw[<-gz] at t2;exact⟨m',_,_,_,_,h1,h2,by omega,by omega,by omega,by omega,CX (AX aDl) (qv _ x) h4,CX (AX aDm) (qv _ x) q,CX (AX aDn) (qv _ x) k4,CX (AX aGP) (qv _ x) t2⟩
theorem xm{nm:List UInt8}{r:ah}(x:List Int)(hx:x.length<=30)(ht:uL nm=some (o7 [La vy] r))(hr:(tyName r==[45,62])=false)(hk:eC nm=some 2):rN nm [aM (x.map bL)] :=
 @aSi A0 nm (La vy) r _ ht hr hk (@aLr A0 _ x hx (@aDw A0 x))
theorem Su[h_](JI:h_.pg=.agg [.slice (c7.map ax.enc)]){nm:List UInt8}{vs:List ad}(h:rN nm vs){v:ad}{n:Nat}(JY:h_.rn (lV nm vs)=some (some (pM v n)))(S:AH)(hS:S.lo<=S.objs.length) :
  CF (.fn 15) [.val (.str nm),.val (.slice (vs.map ad.enc))] S=some (.ret (.aj [v.enc,.int .i64 (n:Nat),.bool true]),S) :=
 c15 _ nm _ v n S ⟨_,rfl⟩ (aW8 JI h S hS) (NI (r:=pM v n) (by show h_.rn _=_;exact JY) rfl)
open Classical in
theorem a7C(A:List Int)(hA:A.length<AR)(sto:AH)(AP:sto.lo<=sto.objs.length) :
  ∃I:h_,(∀B0,Env Tryz.prog ans B0 (@oV I))/\@CF I (.fn 5) [.val (.slice (A.map fO))] sto=some (.ret (.val (.bool true)),sto):=by
 have hx:(A.take 30).length<=30:=by simp;omega
 obtain⟨m,n1,n2,n3,n4,p1,p2,b1,b2,b3,b4,e1,e2,e3,e4⟩:=aBG (A.take 30) hx;have hm:m.length<=30:=by rw[p1.length_eq];exact hx
 have hN:=a6P (A.take 30);have a06:=xm (nm:=lM) (r:=La vy) _ hx (by kernel_rfl) rfl (by kernel_rfl);have a07:=xm (nm:=iR) (r:=La vy) _ hx (by kernel_rfl) rfl (by kernel_rfl);have a08:=xm (nm:=iS) (r:=La vy) _ hx (by kernel_rfl) rfl (by kernel_rfl);have a1a:=xm (nm:=qN) (r:=TJ vy) _ hx (by kernel_rfl) rfl (by kernel_rfl);have cm:(aM (m.map bL)).cu<=4000:=by rw[de];omega
 have a5u:(dX (A.take 30)).val.cu<=4000:=by rw[df];omega
 have BA:∀{a b:List UInt8},a≠b->lV a [aM ((A.take 30).map bL)]≠lV b [aM ((A.take 30).map bL)]:=λh e=>h (aEV e)
 let I:=A2 (aM ((A.take 30).map bL)) (dX (A.take 30)).val (aM (m.map bL)) (aM ((dX (A.take 30)).flat.map bL)) n1 n2 n3 n4
 refine⟨I,λB0=>Zc I B0 (λargs res h=>?_) rfl (λargs res h=>?_),?_⟩
 ·have h:(if args=[.val (.str jP),.val (.slice [(dX (A.take 30)).val.enc])] then some (some (d_.ret (.aj [(aM ((dX (A.take 30)).flat.map bL)).enc,.int .i64 0]))) else some none)=some (some res):=h
  split at h
  ·rename_i ha
   cases h;subst ha;intro sto w Ψ J ow ws hp;exact(aTq _ (by omega) sto.objs sto.lo hp.lo).2 B0 w Ψ J ow ws hp
  ·cases h
 ·have h:(if args=lV lM [aM ((A.take 30).map bL)] then some (some (pM (aM (m.map bL)) n1)) else if args=lV iR [aM ((A.take 30).map bL)] then some (some (pM (aM (m.map bL)) n2)) else if args=lV iS [aM ((A.take 30).map bL)] then some (some (pM (aM (m.map bL)) n3)) else if args=lV qN [aM ((A.take 30).map bL)] then some (some (pM (dX (A.take 30)).val n4)) else some none)=some (some res):=h
  split at h
  ·rename_i ha
   cases h;subst ha;intro sto w Ψ J ow ws hp;exact(ft a06 e1 b1 (xP m) cm sto.objs sto.lo hp.lo).2 B0 w Ψ J ow ws hp
  split at h
  ·rename_i ha
   cases h;subst ha;intro sto w Ψ J ow ws hp;exact(ft a07 e2 b2 (xP m) cm sto.objs sto.lo hp.lo).2 B0 w Ψ J ow ws hp
  split at h
  ·rename_i ha
   cases h;subst ha;intro sto w Ψ J ow ws hp;exact(ft a08 e3 b3 (xP m) cm sto.objs sto.lo hp.lo).2 B0 w Ψ J ow ws hp
  split at h
  ·rename_i ha
   cases h;subst ha;intro sto w Ψ J ow ws hp;exact(ft a1a e4 b4 (uk _) a5u sto.objs sto.lo hp.lo).2 B0 w Ψ J ow ws hp
  ·cases h
 ·have r1:I.rn (lV lM [aM ((A.take 30).map bL)])=some (some (pM (aM (m.map bL)) n1)):=Br rfl
  have r2:I.rn (lV iR [aM ((A.take 30).map bL)])=some (some (pM (aM (m.map bL)) n2)):=(Bf (BA (by decide))).trans (Br rfl);have r3:I.rn (lV iS [aM ((A.take 30).map bL)])=some (some (pM (aM (m.map bL)) n3)):=(Bf (BA (by decide))).trans ((Bf (BA (by decide))).trans (Br rfl));have r4:I.rn (lV qN [aM ((A.take 30).map bL)])=some (some (pM (dX (A.take 30)).val n4)):=(Bf (BA (by decide))).trans ((Bf (BA (by decide))).trans ((Bf (BA (by decide))).trans (Br rfl)));have r8:I.ap [.val (.str jP),.val (.slice [(dX (A.take 30)).val.enc])]=some (some (d_.ret (.aj [(aM ((dX (A.take 30)).flat.map bL)).enc,.int .i64 0]))):=Br rfl
  exact @c5 I A hA sto AP m p1 p2 n1 n2 n3 n4 (@Su I rfl _ _ a06 _ _ r1 sto AP) (@Su I rfl _ _ a07 _ _ r2 sto AP) (@Su I rfl _ _ a08 _ _ r3 sto AP) (@Su I rfl _ _ a1a _ _ r4 sto AP)
   (NI (pr:=@oV I) (f:=8) (r:=.ret (.aj [(aM ((dX (A.take 30)).flat.map bL)).enc,.int .i64 0])) (by show I.ap _=_;exact r8) (by rw[ad.aw];rfl))
end
section
open Go.Proofs.YtoiocfngjchdiaaGreatDoor Go.AM
inductive ni (W:World):ae->Value->Prop
 |int (k:IntKind) (n:Int):ni W (.int k n) (.int k n)
 |str (s:ByteArray):ni W (.str s.data.toList) (.string s)
 |nil:ni W (.slice []) (.slice none 0 0)
 |ko (v:Value) (h:v=.nilIface\/∃t x,v=.iface t x):ni W .ko v
 |slice (xs:List ae) (b o len cap s:Nat) (sp:Option Nat) (vs:Nat->Nat->Value) (hl:xs.length=len) (hc:len<=cap) (hp:xs≠[]->sp=none) (hs:∀(i:Nat)(x:ae),xs[i]?=some x->x.cells.length=s)
   (hf:∀(i:Nat)(x:ae)(j:Nat)(c:ae),xs[i]?=some x->x.cells[j]?=some c->flat c=true/\W.cell? ⟨b,o+i*s+j,none⟩=some (vs i j))
   (hx:∀(i:Nat)(x:ae)(j:Nat)(c:ae),xs[i]?=some x->x.cells[j]?=some c->ni W c (vs i j)):ni W (.slice xs) (.slice (some ⟨b,o,sp⟩) len cap)
def Sw(W:World):HT:=λb o c=>flat c=true/\∃v,W.cell? ⟨b,o,none⟩=some v/\ni W c v
theorem ni.rel{W:World}{J:List Nat}{c:ae}{v:Value}(h:ni W c v):am (Sw W) J c v:=by
 induction h with
 |int k n=>exact .int k n
 |str s =>
  have:s=⟨⟨s.data.toList⟩⟩:=by cases s;simp
  rw[this];exact .str _
 |nil=>exact .slice [] none 0 0 0 rfl (Ae _) (λi x e=>by simp at e)
 |ko v h=>exact .ko v h
 |slice xs b o len cap s sp vs hl hc hp hs hf hx ih =>
  refine .slice xs _ len cap s hl hc λi x e=>⟨hs i x e,b,o,?_,λj c hj=>⟨(hf i x j c e hj).1,_,(hf i x j c e hj).2,hx i x j c e hj⟩⟩
  rw[hp (λh=>by rw[h] at e;simp at e)]
structure Rd (W:World) (xs:List ae) (vs:List Value):Prop where
 len:xs.length=vs.length
 abs:∀(j:Nat)(c:ae)(v:Value),xs[j]?=some c->vs[j]?=some v->flat c=true/\ni W c v
theorem Rd.one{W:World}{c:ae}{v:Value}(hf:flat c=true)(h:ni W c v):Rd W [c] [v]:=⟨rfl,λj x u hx hu=>by
 cases j with
 |zero=>simp at hx hu;subst hx;subst hu;exact⟨hf,h⟩
 |succ j=>simp at hx⟩
theorem Rd.append{W:World}{a b:List ae}{u v:List Value}(h:Rd W a u)(k:Rd W b v):Rd W (a++b) (u++v):=⟨by simp[h.len,k.len],λj c x hc hx=>by
 rw[Cg] at hc hx;rw[h.len] at hc
 split at hc
 ·rename_i hj;rw[Br hj] at hx;exact h.abs j c x hc hx
 ·rename_i hj;rw[Bf hj] at hx;exact k.abs _ c x hc hx⟩
section
variable {H:Type}{enc:TypeId×Value->H}{W:World}{sp:Nat->Bool}{hd:Bool}
noncomputable abbrev rd(enc:TypeId×Value->H)(W:World)(sp:Nat->Bool)(hd:Bool)(n:Nat)(t:TypeId)(cs:List Value):=DataW.trod enc Tryz.prog W 0 sp hd n t cs
theorem aTl{n t k}(ht:Tryz.prog.underlying t=some (.int k)){cs:List Value}{x}(h:rd enc W sp hd n t cs=some x):∃z:Int,cs=[.int k z]/\(Lit.int k z).wf=true/\Rd W [.int k z] cs/\1<=Rows.uptoBulk x.1:=by
 obtain⟨z,rfl,rfl,hw⟩:=DataW.trod_int ht h;exact⟨z,rfl,hw,.one rfl (.int _ _),by simp[Rows.uptoBulk]⟩
def JB{α:Type}(sz:α->Nat):List α->Nat
 |[]=>0
 |a::l=>sz a+1+JB sz l
theorem a3l{α:Type}(sz:α->Nat):∀a b:List α,JB sz (a++b)=JB sz a+JB sz b
 |[],b=>by simp[JB]
 |x::a,b=>by simp only[Cw,JB,a3l sz a b];omega
theorem a1u{H:Type}:∀l r:List (DataW H),Rows.uptoBulkAll (l++r)=Rows.uptoBulkAll l+Rows.uptoBulkAll r
 |[],r=>by simp[Rows.uptoBulkAll]
 |x::l,r=>by simp only[Cw,Rows.uptoBulkAll,a1u l r];omega
theorem aH9{α:Type}(en:α->ae)(sz:α->Nat){n t e s:Nat}(ht:Tryz.prog.underlying t=some (.slice e))(hs:Tryz.prog.cellsOf e=s)(G4:0<s)(I4:∀a,(en a).cells.length=s){cs:List Value}{x}
  (ih:∀m,m<n->∀cs x,rd enc W sp hd m e cs=some x->∃a:α,Rd W (en a).cells cs/\sz a+1<=Rows.uptoBulk x.1)
  (h:rd enc W sp hd n t cs=some x):∃l:List α,Rd W [.slice (l.map en)] cs/\JB sz l+1<=Rows.uptoBulk x.1:=by
 rcases DataW.trod_slice ht h with⟨rfl,rfl⟩|⟨a,len,cap,elems,rest,m,rfl,rfl,rfl,hb,PQ,Rm,KG,hE,_,_⟩
 ·exact⟨[],.one rfl .nil,by simp[JB,Rows.uptoBulk]⟩
 ·have build:∀k,k<=len->∃l:List α,l.length=k/\(∀(i:Nat)(a0:α),l[i]?=some a0->∃BX,W.cells? 0 (a.add (i*s)) s=some BX/\Rd W (en a0).cells BX)/\JB sz l<=Rows.uptoBulkAll ((elems.take k).map (·.1)):=by
   intro k;induction k with
   |zero=>intro _;exact⟨[],rfl,λi a0 e=>by simp at e,by simp[JB]⟩
   |succ k ihk =>
    intro hk;obtain⟨l,l1,l2,l3⟩:=ihk (by omega);have h1:=hE k (by omega);have Rr:k<elems.length:=by omega
    rw[Bv Rr] at h1;obtain⟨BX,g1,g2⟩:=Da.1 h1;obtain⟨a0,k1,k2⟩:=ih m (by omega) BX _ g2;refine⟨l++[a0],by simp[l1],λi b0 e=>?_,?_⟩
    ·rw[Cg] at e
     split at e
     ·exact l2 i b0 e
     ·rename_i hi
      have PV:i=k:=by
       have:=(Ab.1 e).1
       simp at this;omega
      subst PV;simp[l1] at e;subst e;exact⟨BX,by rw[<-hs];exact g1,k1⟩
    ·rw[List.take_add_one,Bv Rr]
     simp only[Option.toList_some,Fa,Ba,Av,a1u,a3l];simp only[JB,Rows.uptoBulkAll];omega
  obtain⟨l,l1,l2,l3⟩:=build len (Ae _);rw[Bz (by omega)] at l3;refine⟨l,?_,by simp only[Rows.uptoBulk];omega⟩
  have CY:∀(i:Nat)(a0:α)(j:Nat)(c:ae),l[i]?=some a0->(en a0).cells[j]?=some c->∃v,W.cell? (a.add (i*s+j))=some v/\flat c=true/\ni W c v:=λi a0 j c h1 h2=>by
   obtain⟨BX,g1,g2⟩:=l2 i a0 h1;obtain⟨_,g3,g4⟩:=World.cells?_some g1;have hj:j<s:=by rw[<-I4 a0];exact(Ab.1 h2).1
   have YM:j<BX.length:=by omega
   have h5:=g4 j hj;rw[Addr.add_add,Bv YM] at h5;have h6:=g2.abs j c _ h2 (Bv YM);exact⟨_,h5,h6.1,h6.2⟩
  obtain⟨b,o,X1⟩:=a
  have xd:l.map en≠[]->X1=none:=λBA=>by
   cases l with
   |nil=>exact absurd rfl BA
   |cons a0 l =>
    have h0:0<(en a0).cells.length:=by rw[I4];exact G4
    obtain⟨v,h1,_⟩:=CY 0 a0 0 _ rfl (Bv h0)
    have:=World.cell?_spot h1
    simpa[Addr.add] using this
  refine .one rfl (.slice (l.map en) b o len cap s X1 (λi j=>(W.cell? ⟨b,o+i*s+j,none⟩).getD undef) (by simp[l1]) PQ xd (λi x e=>?_) (λi x j c e hj=>?_) (λi x j c e hj=>?_))
  all_goals
   rw[Aw,Aq] at e;obtain⟨a0,e1,rfl⟩:=e
  ·exact I4 a0
  ·obtain⟨v,h1,h2,_⟩:=CY i a0 j c e1 hj
   have Hi:=xd (λh=>by have:=List.map_eq_nil_iff.1 h;subst this;simp at e1);subst Hi;rw[Go.WideShapes.add_plain,<-De] at h1;exact⟨h2,by rw[h1];rfl⟩
  ·obtain⟨v,h1,_,h3⟩:=CY i a0 j c e1 hj
   have Hi:=xd (λh=>by have:=List.map_eq_nil_iff.1 h;subst this;simp at e1);subst Hi;rw[Go.WideShapes.add_plain,<-De] at h1;rw[h1];exact h3
theorem k3:Tryz.prog.cellsOf 3=1:=by kernel_rfl
theorem a2e:∀l:List Int,JB (λ_:Int=>0) l=l.length
 |[]=>rfl
 |t::l=>by simp only[JB,Ak,a2e l];omega
theorem aO1(n:Nat)(cs:List Value)(x:DataW H×List MemPlace)(h:rd enc W sp hd n 43 cs=some x):∃l:List Int,Rd W [.slice (l.map fO)] cs/\l.length+1<=Rows.uptoBulk x.1:=by
 obtain⟨l,r,b⟩:=aH9 fO (λ_=>0) Tryz.underlying43 k3 (by omega) (λa=>rfl) (λm' _ cs x h=>by
  obtain⟨z,_,_,r1,b1⟩:=aTl Tryz.underlying3 h;exact⟨z,r1,by omega⟩) h
 rw[a2e] at b;exact⟨l,r,b⟩
end
end
section
open Go.Proofs.YtoiocfngjchdiaaGreatDoor Go.AM Go.RowKit
theorem a3w{P:Program}{W:World}:∀{l:List (String×DataW Unit)}{ps:List MemPlace},DataW.LaidVars P W l ps->∀(i:Nat)(n:String)(d:DataW Unit),l[i]?=some (n,d) ->
  ∃g t cs fuel p,P.globalNamed n=some g/\(P.globals[g]?).map (·.type)=some t/\W.var? P n=some cs/\DataW.trod (λ_=>()) P W 0 (λ_=>true) false fuel t cs.toList=some (d,p)
 |(m,e)::r,ps,h,i,n,d,hi=>by
  obtain⟨g,t,cs,fuel,p,q,h1,h2,h3,h4,h5,_⟩:=h;cases i with
  |zero=>simp at hi;obtain⟨rfl,rfl⟩:=hi;exact⟨g,t,cs,fuel,p,h1,h2,h3,h4⟩
  |succ i=>exact a3w h5 i n d (by simpa using hi)
theorem a5D:Tryz.prog.globalNamed "math/bits.deBruijn64tab"=some 7:=by kernel_rfl
theorem kS{W:World}(hl:laidMet Tryz.prog Rows.preludeSortsRow.laid W):8<=W.heap.size:=by
 obtain⟨ps,h,_⟩:=hl;obtain⟨g,t,cs,fuel,p,h1,h2,h3,h4⟩:=a3w h 1 "math/bits.deBruijn64tab" _ rfl;obtain rfl:=Bp (a5D.symm.trans h1);simp only[World.var?,h1,Ar] at h3
 split at h3
 ·rename_i hh
  have:=(An.1 hh).1
  omega
 ·cases h3
theorem b_{W:World}(h:8<=W.heap.size):c_ (Sw W) W:=⟨h,λb o c ⟨h1,v,h2,h3⟩=>⟨h1,v,h2,h3.rel⟩⟩
theorem a6g{W w':World}{Ψ Z':HT}{AO:Own}(h:Fr W Ψ (λ_=>none) w' Z' AO):Below W.heap.size W w':=⟨h.os,h.tape,h.output,h.size,λk hk=>(h.keep k hk rfl).1⟩
end
section
open Go.Proofs.YtoiocfngjchdiaaGreatDoor Go.AM Go.RowKit Go.Lib
theorem Zk:ownKnob Tryz.prog.godebug=none:=by kernel_rfl
theorem laidOut:laidOutB Tryz.prog=true:=by kernel_rfl
def z7:Nat->DataW Unit->List Value
 |0,_=>[]
 |_+1,.lit (.int k z)=>[.int k z]
 |n+1,.agg l=>l.flatMap (z7 n)
 |_,_=>[]
noncomputable def N0:Nat:=(World.settled Tryz.prog default).heap.size
noncomputable def gR(os:Os):World :=
 let N:=(World.settled Tryz.prog os).heap.size
 let w0:=World.holding Tryz.prog os ⟨#[.cells #[.string ⟨#[118,97,108,117,101,32,111,117,116,32,111,102,32,114,97,110,103,101]⟩] 389,.cells #[.string ⟨#[105,110,118,97,108,105,100,32,115,121,110,116,97,120]⟩] 389],#[],[]⟩
 let put (h:Array Obj) (g:Nat) (cs:Array Value):Array Obj:=h.modify g fun
  |.cells _ t frozen=>.cells cs t frozen
  |o=>o
 let h1:=put w0.heap 1 #[.iface 387 (.pointer (some ⟨N+1,0,none⟩))]
 let h2:=put h1 2 #[.iface 387 (.pointer (some ⟨N,0,none⟩))]
 let h3:=put h2 3 (z7 3 Rows.laid_unicode_utf8_first).toArray
 let h4:=put h3 4 (z7 3 (Rows.laid_unicode_utf8_acceptRanges (H:=Unit))).toArray
 let h5:=put h4 5 (z7 3 (Rows.laid_internal_strconv_uint64pow10 (H:=Unit))).toArray
 let h6:=put h5 6 (z7 3 (Rows.laid_math_bits_deBruijn32tab (H:=Unit))).toArray
 let h7:=put h6 7 (z7 3 (Rows.laid_math_bits_deBruijn64tab (H:=Unit))).toArray
 { w0 with heap:=h7 }
theorem a1B(os:Os)(args:Array Value):laidMet Tryz.prog Rows.preludeSortsRow.laid ((gR os).forCall (λ_ _=>0) ⟨#[],args,[]⟩).memory :=
 (LaidIn.of_run [1,2,3,4,5,6,7,N0,N0+1] 8 (by kernel_rfl) (by kernel_rfl) (by kernel_rfl) (by kernel_rfl)).met
theorem aXI:Tryz.prog.laidByTextLater [("math/bits.deBruijn32tab",Rows.laid_math_bits_deBruijn32tab),("math/bits.deBruijn64tab",Rows.laid_math_bits_deBruijn64tab),("internal/strconv.uint64pow10",Rows.laid_internal_strconv_uint64pow10),("unicode/utf8.acceptRanges",Rows.laid_unicode_utf8_acceptRanges),("strconv.ErrRange",Rows.laid_strconv_ErrRange),("strconv.ErrSyntax",Rows.laid_strconv_ErrSyntax)] [.data,.data,.data,.data,.sentinel,.sentinel] true :=
 Program.laidByTextLater_by_one 72 8 65 (by kernel_rfl) (by kernel_rfl) (by kernel_rfl) (by kernel_rfl) (by kernel_rfl) (by kernel_rfl) (λ_ _=>by kernel_rfl)
theorem aXH:Tryz.pinned.checked.prog.pinnedFits "unicode/utf8.first"=true:=by kernel_rfl
theorem aXJ:Tryz.pinned.checked.prog.headLifts.contains "ownunsafe"=false:=by kernel_rfl
theorem aXG:Tryz.pinned.checked.prog.listedFits [("math/bits.deBruijn32tab",Rows.laid_math_bits_deBruijn32tab),("math/bits.deBruijn64tab",Rows.laid_math_bits_deBruijn64tab),("internal/strconv.uint64pow10",Rows.laid_internal_strconv_uint64pow10),("unicode/utf8.acceptRanges",Rows.laid_unicode_utf8_acceptRanges),("strconv.ErrRange",Rows.laid_strconv_ErrRange),("strconv.ErrSyntax",Rows.laid_strconv_ErrSyntax),("unicode/utf8.first",Rows.laid_unicode_utf8_first)]=true:=by
 unfold Program.listedFits;rw[aXJ]
 kernel_rfl
theorem a0p:Rows.preludeSortsUptoRow.laidByTextAt .later Tryz.pinned [.data,.data,.data,.data,.sentinel,.sentinel,.pinned] true :=
 OpenClaim.laidByTextAt_pinned rfl rfl aXI rfl rfl rfl rfl (λy hy _e=>by
  simp only[Rows.preludeSortsUptoRow,List.zip_cons_cons,List.zip_nil_right,As,List.mem_nil_iff,Ep] at hy;rcases hy with rfl|rfl|rfl|rfl|rfl|rfl|rfl
  ·cases _e
  ·cases _e
  ·cases _e
  ·cases _e
  ·cases _e
  ·cases _e
  ·exact⟨aXH,by kernel_rfl⟩) aXG
end
section
open Go.Proofs.YtoiocfngjchdiaaGreatDoor Go.AM Go.RowKit Go.ChangeShapes Go.WideShapes Go.ChangeAt
theorem a7w{H:Type}{enc:TypeId×Value->H}{P:Program}{f:Func}{s:ChangeSpec}{W W':World}{args:Array Value}{v:Value}{ds gs:List (DataW H)}{before pa pv:List MemPlace}
  (hW:DataW.Whole enc P f.params.toList s.vars false W args.toList ds gs before) (hb:Below W.heap.size W W')
  (B7:∀(b:Nat)(sp:Nat->Bool)(hd:Bool),DataW.TrodAll enc P W' b sp hd f.resultTypes.toList (v.resultList f.resultTypes.size) (s.fn H (ds++gs)).results [])
  (B9:∀sp:Nat->Bool,(∀p∈before,sp p.block=true)->DataW.TrodAll enc P W' 0 sp true f.params.toList args.toList (s.fn H (ds++gs)).args pa)
  (a4s:∀sp:Nat->Bool,(∀p∈before,sp p.block=true)->DataW.TrodVars enc P W' sp s.vars (s.fn H (ds++gs)).vars pv)
  (YH:before=pa++pv)
  (EE:∀(j:Nat)(t:TypeId)(r:Value),f.resultTypes[j]?=some t->(v.resultList f.resultTypes.size)[j]?=some r->Value.okWide P W' .any 0 t r) :
  s.post enc P f false true false false W args v W':=by
 have hold:∀p∈before,(λb=>decide (b<W.heap.size)) p.block=true:=λp hp=>by simpa using hW.lt p hp
 refine⟨ds,gs,before,[],pa,pv,hW,B7 _ _ _,B9 _ hold,a4s _ hold,hb.frame _,λh=>?_⟩;cases h
theorem aFz{W:World}{x:ae}{v:Value}(h:Rd W [x] [v]):am (Sw W) [] x v:=(h.abs 0 x v rfl rfl).2.rel
set_option maxRecDepth 100000 in
theorem a03(H:Type)(enc:TypeId×Value->H)(W:World)(base:Nat)(args:Array Value)(ds gs:List (DataW H))(before:List MemPlace)
  (DV:∀(j:Nat) t v,Tryz.f5.params[j]?=some t->args[j]?=some v->Value.okWide Tryz.prog W .any base t v)
  (hW:DataW.Whole enc Tryz.prog Tryz.f5.params.toList Rows.preludeSortsSpec.vars false W args.toList ds gs before) (hk:Rows.uptoSmall H (ds++gs)=true) (hL:laidMetH Tryz.prog Rows.preludeSortsRow.laid W) (Rg:W.ShapedOpen Tryz.prog) :
  Calls Tryz.prog 5 args W λe W'=>∃v,e=.returned v/\Rows.preludeSortsSpec.post enc Tryz.prog Tryz.f5 false true false false W args v W':=by
 have Ue:=hW;obtain⟨p,q,Iz,a5M,rfl,Iv,G6⟩:=hW;have hA:DataW.TrodAll enc Tryz.prog W 0 (λ_=>true) true Tryz.f5.params.toList args.toList ds p:=Iz;rw[Tryz.params5] at hA DV;obtain⟨v0,vs0,d0,ds0,a12,a8C,B9,rfl,rfl,h0,r0⟩:=trodAll_cons hA;obtain⟨rfl,rfl,rfl⟩:=trodAll_nil r0;obtain rfl:args=#[v0]:=Array.toList_inj.1 B9;obtain⟨rfl,rfl⟩:=trodVars_none a5M;have Xv:=DV 0 43 v0 (by kernel_rfl) (by simp)
 have wy:v0.cells=#[v0]:=by
  simp only[Value.okWide,Tryz.underlying43] at Xv;cases v0<;>first|rfl|(exfalso;simp[Cell.okWide,Cell.ok,Tryz.underlying43] at Xv)
 have h0k:=h0;obtain⟨f0,h0⟩:=h0;rw[wy] at h0;obtain⟨A,Mb,Rz⟩:=aO1 f0 _ _ h0;clear Iz;simp only[Ao] at Ue hk;have hsm:Rows.uptoBulkAll [d0]<=1048576:=Eu hk;simp only[Rows.uptoBulkAll] at hsm;simp only at Rz;obtain⟨I,E,hc⟩:=a7C A (by simp only[AR];omega) ⟨[],0⟩ (Ae _)
 have BM:dT ans W.heap.size W (Sw W) [] (λ_=>none) [.val (.slice (A.map fO))] #[v0] ⟨[],0⟩:=by
  refine⟨b_ (kS hL),Ae _,λb h=>absurd rfl h,rfl,λs hs=>?_,λi s hi=>?_,⟨rfl,λi o h=>by simp at h⟩,Ae _⟩
  ·simp at hs;subst hs;rfl
  ·match i,hi with
   |0,hi=>cases hi;exact .val _ _ (aFz Mb)
 refine(aAN (E W.heap.size) rfl hc BM).mono λe W' h=>?_
 obtain⟨Z',J',AO,D0,_,v,rfl,hs⟩:=h
 have hv:v=.bool true:=by
  cases hs with
  |val x v h=>cases h;rfl
 subst hv;have KI:=a6g D0;have AL:∀x∈a12++[],x.block<W.heap.size:=λx hx=>Ue.lt x (by simpa using hx)
 refine⟨_,rfl,a7w (pa:=a12++[]) (pv:=[]) Ue KI (λ_ _ _=>trodAll_cons_mk (shut_bool Tryz.underlying4 _) trodAll_mk0) (λsp Hi=>?_) (λ_ _=>rfl) (by simp) (ok_one (by kernel_rfl) rfl (okWide_bool_mk Tryz.underlying4 _))⟩
 exact trodAll_cons_mk (WideElems.Trod_stays laidOut (by kernel_rfl) (Eu (by kernel_rfl)) h0k (λx hx=>KI.same (AL x (by simp[hx]))) (λx hx=>Hi x (by simp[hx])))
  trodAll_mk0
end
end Go.Proofs.YtoiocfngjchdiaaGreatDoor
