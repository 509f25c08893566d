import Derived.Test.YtoiocfngjchdiaaGreatDoorT08
set_option linter.all false
noncomputable section
namespace Go.AM
open Go.RowKit
inductive Tr where
 |si (n:Int)
 |ss (s:List UInt8)
 |any
 |sl (s len:Nat) (cs:List Tr)
mutual
def Mu:Tr->AVal->Bool
 |.si n,a=>(match a with
  |.int .i64 m=>n==m
  |_=>false)
 |.ss s,a=>(match a with
  |.str t=>s==t
  |_=>false)
 |.any,a=>a.isCell
 |.sl s len cs,a=>(match a with
  |.slice xs=>Nat.ble 1 s&&Nat.beq xs.length len&&xs.all (λx=>Nat.beq x.cells.length s)&&NV cs (xs.flatMap AVal.cells)
  |_=>false)
def NV:List Tr->List AVal->Bool
 |[],qaz=>qaz.isEmpty
 |t::ts,qaz=>(match qaz with
  |[]=>false
  |a::qaz=>Mu t a&&NV ts qaz)
end
end Go.AM
namespace Go.CM
open Go.AM
mutual
def LO:Tr->T O->Q->(V->T O->Q->Res)->Res
 |.si n,h,nx,k=>k (.int .i64 n) h nx
 |.ss s,h,nx,k=>k (.str s.length (packL s)) h nx
 |.any,h,nx,k=>k (.rr .any) h nx
 |.sl s len cs,h,nx,k=>(match len with
  |0=>k (.rr .e) h nx
  |m+1=>NY cs h nx λvs h1 n1=>jP vs 0 .nil λt=>pO (.rb ((m+1)*s) t) n1 h1 λh2=>kG n1 λn2=>k (.rr (.sl n1 0 (m+1))) h2 n2)
def NY:List Tr->T O->Q->(List V->T O->Q->Res)->Res
 |[],h,nx,k=>k [] h nx
 |t::ts,h,nx,k=>LO t h nx λv h1 n1=>NY ts h1 n1 λvs h2 n2=>k (v::vs) h2 n2
end
variable {P:Program}{w0:Base}{w:World}{Ψ:HT}{r:V}
theorem aME{J:Rho}{h:T O}{nx:Q}(H:HR P w0 J h nx w){q:Q}{b N:Nat}(e:J q=some (b,N))(hb:b<w0.heap.size):NZ (h.ob q)=false:=by
 have:=H.obj q b N e
 generalize h.ob q=o at this;cases this<;>first|rfl|omega
theorem HR.old1{J:Rho}{h:T O}{nx:Q}(H:HR P w0 J h nx w)(hw:w0.heap.size=w.heap.size){b B n:Nat}{t:T V}{vs:List Value}{ty:TypeId}{fz:Nat×Nat}(hb:w.heap[b]?=some (.cells ⟨vs⟩ ty fz))(hn:B+n<=vs.length)
  (hx:∀(i:Nat) v,i<n->vs[B+i]?=some v->VR J (t.at i) v) (hk:∀i,i<n->isCell (t.at i)=true) :
  HR P w0 (J.set nx b B) (h.put .dead (.rb n t) nx) nx.succ w/\J.le (J.set nx b B):=by
 have AL:=(Ai.1 hb).1;have hle:=Rho.set_le (b:=b) (N:=B) (H.fresh nx (Af _));exact⟨(H.share AL (.rb n t b B vs ty fz (by omega) hb hn (λi v h1 h2=>(hx i v h1 h2).mono hle) hk) λq N' e=>⟨trivial,aME H e (by omega)⟩).1,hle⟩
theorem yZ{b o:Nat}{v:Value}(h:w.cell? ⟨b,o,none⟩=some v):∃vs ty fz,w.heap[b]?=some (.cells ⟨vs⟩ ty fz)/\vs[o]?=some v:=by
 unfold World.cell? at h;simp only at h
 split at h<;>first|cases h|skip
 rename_i cs ty fz hc;exact⟨cs.toList,ty,fz,by simpa using hc,by simpa using h⟩
theorem oq{xs:List AVal}{s:Nat}(h:∀x∈xs,x.cells.length=s):(xs.flatMap AVal.cells).length=xs.length*s/\∀(i:Nat) c,(xs.flatMap AVal.cells)[i]?=some c->∃j m x,xs[j]?=some x/\x.cells[m]?=some c/\i=j*s+m:=by
 induction xs with
 |nil=>simp
 |cons x xs ih =>
  obtain⟨h1,h2⟩:=ih λy hy=>h y (by simp[hy])
  have hx:=h x (by simp);refine⟨by simp only[Ee,Bm,h1,hx,An,Es];omega,λi c hc=>?_⟩;simp only[Ee] at hc;by_cases hi:i<s
  ·rw[Az (by omega)] at hc
   exact⟨0,i,x,rfl,hc,by omega⟩
  ·rw[Bi (by omega),hx] at hc
   obtain⟨j,m,y,g1,g2,g3⟩:=h2 _ _ hc;exact⟨j+1,m,y,by simpa using g1,g2,by rw[Es];omega⟩
mutual
theorem ldC_ok(hs:WSat Ψ w)(hw:w0.heap.size=w.heap.size):∀(t:Tr){a:AVal}{u:Value}{J:Rho}{h:T O}{nx:Q}{k:V->T O->Q->Res},Mu t a=true->VRel Ψ [] a u->HR P w0 J h nx w->LO t h nx k=.ok r ->
  ∃v J' h' nx',(∀k',LO t h nx k'=k' v h' nx')/\k v h' nx'=.ok r/\HR P w0 J' h' nx' w/\J.le J'/\VR J' v u/\isCell v=true
 |.si n,a,u,J,h,nx,k,ho,ha,H,e=>by
  simp only[Mu] at ho
  split at ho
  ·obtain rfl:n=_:=by simpa using ho
   cases ha;exact⟨_,_,_,_,λ_=>rfl,e,H,Rho.le_refl _,.int _ _,rfl⟩
  ·cases ho
 |.ss s,a,u,J,h,nx,k,ho,ha,H,e=>by
  simp only[Mu] at ho
  split at ho
  ·obtain rfl:s=_:=by simpa using ho
   cases ha;exact⟨_,_,_,_,λ_=>rfl,e,H,Rho.le_refl _,.str _ _ _ rfl rfl,rfl⟩
  ·cases ho
 |.any,a,u,J,h,nx,k,ho,ha,H,e=>⟨_,_,_,_,λ_=>rfl,e,H,Rho.le_refl _,.rany _ (ha.one ho),rfl⟩
 |.sl s len cs,a,u,J,h,nx,k,ho,ha,H,e=>by
  simp only[Mu] at ho
  split at ho
  case h_2=>cases ho
  rename_i xs;simp only[Ac] at ho;obtain⟨⟨⟨h0,h1⟩,h2⟩,h3⟩:=ho;have h0:=Ad h0;have h1:=Aa h1;have h2:∀x∈xs,x.cells.length=s:=λx hx=>Aa (As.1 h2 x hx)
  cases ha with
  |slice _ ad K4 cap s' hl hc hx =>
  cases len with
  |zero =>
   simp only[LO] at e
   have:K4=0:=by omega
   subst this;exact⟨_,_,_,_,λ_=>rfl,e,H,Rho.le_refl _,.re _ _,rfl⟩
  |succ m =>
   simp only[LO] at e;obtain⟨f1,f2⟩:=oq h2;have BD:xs≠[]:=λe=>by rw[e] at h1;simp at h1
   obtain⟨x0,hx0⟩:∃x0,xs[0]?=some x0:=by cases xs with|nil=>exact absurd rfl BD|cons y _=>exact⟨y,rfl⟩
   obtain⟨_,b,o,rfl,_⟩:=hx 0 x0 hx0
   have CN:∀(i:Nat) c,(xs.flatMap AVal.cells)[i]?=some c->∃v,w.cell? ⟨b,o+i,none⟩=some v/\VRel Ψ [] c v:=λi c hc=>by
    obtain⟨j,m',x,g1,g2,g3⟩:=f2 i c hc;obtain⟨q1,b',o',q2,q3⟩:=hx j x g1;simp only[Al,Addr.mk.injEq,and_true] at q2;obtain⟨rfl,rfl⟩:=q2;have Kc:s'=s:=by rw[<-q1];exact h2 x (Ba g1)
    subst Kc;obtain⟨_,v,k1,k2⟩:=hs.sat _ _ _ (q3 m' c g2);exact⟨v,by rw[g3,<-Dc];exact k1,k2⟩
   obtain⟨vs,J1,Je,n1,Lu,e1,H1,Qq,LW,hk1⟩:=vm hs hw cs (us:=(List.range (xs.flatMap AVal.cells).length).map λi=>(w.cell? ⟨b,o+i,none⟩).getD Go.undef) h3 (by simp) (λi c v hc hv=>by
    have hi:=(Ab.1 hc).1;obtain⟨v',k1,k2⟩:=CN i c hc;rw[Av,Ce hi] at hv;simp only[Bw,Al] at hv;rw[k1] at hv;simp only[Ci] at hv;subst hv;exact k2) H e
   rw[cV,cT,cY] at e1;have hvl:vs.length=(m+1)*s:=by rw[LW.1];simp[f1,h1]
   have hz:0<(m+1)*s:=Nat.mul_pos (by omega) h0;obtain⟨c0,hc0⟩:∃c0,(xs.flatMap AVal.cells)[0]?=some c0:=⟨_,Cg (by rw[f1,h1];omega)⟩
   obtain⟨v0,k1,_⟩:=CN 0 c0 hc0;obtain⟨ws,ty,fz,b1,_⟩:=yZ k1
   have X3:∀i,i<(m+1)*s->∃v,ws[o+i]?=some v/\w.cell? ⟨b,o+i,none⟩=some v:=λi hi=>by
    obtain⟨v,g1,_⟩:=CN i _ (Cg (by rw[f1,h1];exact hi));obtain⟨ws',Gz,fz',b2,b3⟩:=yZ g1;rw[b1] at b2;simp only[Al,Obj.cells.injEq,Array.mk.injEq] at b2;obtain⟨rfl,_,_⟩:=b2;exact⟨v,b3,g1⟩
   have Om:=TL.puts vs .nil
   obtain⟨H2,Qp⟩:=H1.old1 hw (B:=o) (n:=(m+1)*s) (t:=dE vs 0 .nil) b1 (by
    obtain⟨v,g,_⟩:=X3 ((m+1)*s-1) (by omega)
    have:=(Ab.1 g).1
    omega) (λi v hi hv=>by
    obtain⟨v',g1,g2⟩:=X3 i hi;rw[hv] at g1;cases g1;rw[Om i vs[i] (by simp[hvl,hi])];refine LW.2 i _ v (by simp[hvl,hi]) ?_;rw[Av,Ce (by rw[f1,h1];exact hi),Bw,g2];rfl) (λi hi=>by
    rw[Om i vs[i] (by simp[hvl,hi])];exact hk1 _ (Dx _))
   refine⟨_,_,_,_,λk'=>by simp only[LO];rw[Lu,cV,cT,cY],e1,H2,Rho.le_trans Qq Qp,?_,rfl⟩;have hlen:m+1=K4:=by rw[<-hl,h1]
   rw[hlen];exact .rsl _ 0 _ _ _ _ Rho.set_same hc
theorem vm(hs:WSat Ψ w)(hw:w0.heap.size=w.heap.size):∀(ts:List Tr){qaz:List AVal}{us:List Value}{J:Rho}{h:T O}{nx:Q}{k:List V->T O->Q->Res},NV ts qaz=true->qaz.length=us.length->(∀(i:Nat) c v,qaz[i]?=some c->us[i]?=some v->VRel Ψ [] c v)->HR P w0 J h nx w->NY ts h nx k=.ok r ->
  ∃vs J' h' nx',(∀k',NY ts h nx k'=k' vs h' nx')/\k vs h' nx'=.ok r/\HR P w0 J' h' nx' w/\J.le J'/\VRs J' vs us/\∀v∈vs,isCell v=true
 |[],qaz,us,J,h,nx,k,ho,hl,ha,H,e=>by
  obtain rfl:qaz=[]:=by simpa[NV] using ho
  obtain rfl:us=[]:=Cs hl.symm;exact⟨[],_,_,_,λ_=>rfl,e,H,Rho.le_refl _,.nil,by simp⟩
 |t::ts,qaz,us,J,h,nx,k,ho,hl,ha,H,e=>by
  cases qaz with
  |nil=>simp[NV] at ho
  |cons a qaz =>
   cases us with
   |nil=>simp at hl
   |cons u us =>
    simp only[NV,Ac] at ho;simp only[NY] at e;obtain⟨v,J1,h1,n1,Lu,e1,H1,Qq,r1,c1⟩:=ldC_ok hs hw t ho.1 (ha 0 a u rfl rfl) H e;obtain⟨vs,J2,h2,n2,S9,e2,H2,Qp,r2,c2⟩:=vm hs hw ts ho.2 (by simpa using hl) (λi c v h1 h2=>ha (i+1) c v (by simpa using h1) (by simpa using h2)) H1 e1
    exact⟨_,_,_,_,λk'=>by simp only[NY];rw[Lu,S9],e2,H2,Rho.le_trans Qq Qp,.cons (r1.mono Qp) r2,λx hx=>by
     rcases Au.1 hx with rfl|hx
     ·exact c1
     ·exact c2 x hx⟩
end
end Go.CM
noncomputable section
namespace Go.CM
def Lw:GT:=.nd 1701670739 (.nd 25705 (.nd 111 (.nd 104 (.nd 98 (.nd 97 (.leaf 1 97 (.int .i64 2)) (.leaf 1 98 (.int .i64 2))) (.nd 102 (.leaf 1 102 (.int .i64 2)) (.nd 103 (.leaf 1 103 (.int .i64 2)) (.leaf 1 104 (.int .i64 2))))) (.nd 107 (.nd 105 (.leaf 1 105 (.int .i64 2)) (.leaf 1 107 (.int .i64 2))) (.nd 108 (.leaf 1 108 (.int .i64 2)) (.nd 110 (.leaf 1 110 (.int .i64 2)) (.leaf 1 111 (.int .i64 2)))))) (.nd 118 (.nd 114 (.nd 112 (.leaf 1 112 (.int .i64 2)) (.leaf 1 114 (.int .i64 2))) (.nd 115 (.leaf 1 115 (.int .i64 2)) (.nd 116 (.leaf 1 116 (.int .i64 2)) (.leaf 1 118 (.int .i64 2))))) (.nd 122 (.nd 120 (.leaf 1 120 (.int .i64 2)) (.nd 121 (.leaf 1 121 (.int .i64 2)) (.leaf 1 122 (.int .i64 2)))) (.nd 24871 (.leaf 2 24871 (.int .i64 4)) (.nd 25127 (.leaf 2 25127 (.int .i64 4)) (.leaf 2 25705 (.int .i64 2))))))) (.nd 7367034 (.nd 6845550 (.nd 6579047 (.nd 28519 (.leaf 2 28519 (.int .i64 2)) (.leaf 3 6579047 (.int .i64 2))) (.nd 6581829 (.leaf 3 6581829 (.int .i64 3)) (.nd 6581875 (.leaf 3 6581875 (.int .i64 2)) (.leaf 3 6845550 (.int .i64 2))))) (.nd 7173491 (.nd 7104846 (.leaf 3 7104846 (.int .i64 3)) (.nd 7105633 (.leaf 3 7105633 (.int .i64 2)) (.leaf 3 7173491 (.int .i64 2)))) (.nd 7235949 (.leaf 3 7235949 (.int .i64 2)) (.nd 7364973 (.leaf 3 7364973 (.int .i64 2)) (.leaf 3 7367034 (.int .i64 2)))))) (.nd 7889261 (.nd 7630409 (.nd 7561825 (.leaf 3 7561825 (.int .i64 2)) (.leaf 3 7630409 (.int .i64 3))) (.nd 7630702 (.leaf 3 7630702 (.int .i64 2)) (.nd 7631718 (.leaf 3 7631718 (.int .i64 2)) (.leaf 3 7889261 (.int .i64 2))))) (.nd 1701147220 (.nd 7958113 (.leaf 3 7958113 (.int .i64 2)) (.nd 1701080910 (.leaf 4 1701080910 (.int .i64 3)) (.leaf 4 1701147220 (.int .i64 3)))) (.nd 1701147252 (.leaf 4 1701147252 (.int .i64 2)) (.nd 1701536116 (.leaf 4 1701536116 (.int .i64 2)) (.leaf 4 1701670739 (.int .i64 3)))))))) (.nd 499984920691 (.nd 1953720652 (.nd 1835365449 (.nd 1702195796 (.nd 1701736270 (.leaf 4 1701736270 (.int .i64 3)) (.leaf 4 1702195796 (.int .i64 3))) (.nd 1717658956 (.leaf 4 1717658956 (.int .i64 3)) (.nd 1752461154 (.leaf 4 1752461154 (.int .i64 2)) (.leaf 4 1835365449 (.int .i64 3))))) (.nd 1886351972 (.nd 1885957222 (.leaf 4 1885957222 (.int .i64 2)) (.leaf 4 1886351972 (.int .i64 2))) (.nd 1936617283 (.leaf 4 1936617283 (.int .i64 3)) (.nd 1937010249 (.leaf 4 1937010249 (.int .i64 3)) (.leaf 4 1953720652 (.int .i64 3)))))) (.nd 435845428084 (.nd 435526984050 (.nd 1953720684 (.leaf 4 1953720684 (.int .i64 2)) (.leaf 5 435526984050 (.int .i64 2))) (.nd 435527247213 (.leaf 5 435527247213 (.int .i64 2)) (.nd 435728179526 (.leaf 5 435728179526 (.int .i64 3)) (.leaf 5 435845428084 (.int .i64 2))))) (.nd 491311099750 (.nd 465541295974 (.leaf 5 465541295974 (.int .i64 2)) (.nd 482805968501 (.leaf 5 482805968501 (.int .i64 2)) (.leaf 5 491311099750 (.int .i64 2)))) (.nd 491328597872 (.leaf 5 491328597872 (.int .i64 2)) (.nd 495756604521 (.leaf 5 495756604521 (.int .i64 2)) (.leaf 5 499984920691 (.int .i64 2))))))) (.nd 125779768599917 (.nd 500152823651 (.nd 500136113005 (.nd 500136113001 (.leaf 5 500136113001 (.int .i64 2)) (.leaf 5 500136113005 (.int .i64 2))) (.nd 500136113009 (.leaf 5 500136113009 (.int .i64 2)) (.nd 500152495220 (.leaf 5 500152495220 (.int .i64 2)) (.leaf 5 500152823651 (.int .i64 2))))) (.nd 114849311188084 (.nd 110425311047777 (.leaf 6 110425311047777 (.int .i64 2)) (.nd 114849160783212 (.leaf 6 114849160783212 (.int .i64 2)) (.leaf 6 114849311188084 (.int .i64 2)))) (.nd 121424789663823 (.leaf 6 121424789663823 (.int .i64 3)) (.nd 123649615949676 (.leaf 6 123649615949676 (.int .i64 2)) (.leaf 6 125779768599917 (.int .i64 2)))))) (.nd 28555895112560483 (.nd 125780070525286 (.nd 125779869722981 (.leaf 6 125779869722981 (.int .i64 2)) (.leaf 6 125780070525286 (.int .i64 2))) (.nd 127961628831587 (.leaf 6 127961628831587 (.int .i64 2)) (.nd 128034677157481 (.leaf 6 128034677157481 (.int .i64 2)) (.leaf 7 28555895112560483 (.int .i64 2))))) (.nd 32760453145784944 (.nd 28555907813500274 (.leaf 7 28555907813500274 (.int .i64 2)) (.nd 32199620761578868 (.leaf 7 32199620761578868 (.int .i64 2)) (.leaf 7 32760453145784944 (.int .i64 2)))) (.nd 32776877352315252 (.leaf 7 32776877352315252 (.int .i64 2)) (.nd 1871507244730247308658 (.leaf 9 1871507244730247308658 (.int .i64 2)) (.leaf 9 2037169923915089338736 (.int .i64 2))))))))
end Go.CM
end
namespace Go.Proofs.YtoiocfngjchdiaaGreatDoor
open Go.AM
mutual
def aZ1:TyD->List Tr
 |.mk n al=>[.ss n,.sl 2 al.length (VZ al)]
def VZ:List TyD->List Tr
 |[]=>[]
 |t::l=>aZ1 t++VZ l
end
def aZZ(c:CoD):List Tr:=[.ss c.name,.sl 2 c.args.length (VZ c.args)]
def aZ0(d:DeD):List Tr:=[.si d.kind,.ss d.dname,.sl 1 d.vars.length (d.vars.map .ss),.sl 2 d.cons.length (d.cons.flatMap aZZ),.any,.any,.any,.any,.any,.any,.any,.any,.any,.any]
def SK(l:List DeD):Tr:=.sl 14 l.length (l.flatMap aZ0)
end Go.Proofs.YtoiocfngjchdiaaGreatDoor
end
