import Derived.Test.YtoiocfngjchdiaaGreatDoorC01
set_option linter.all false
noncomputable section
namespace Go.CM
abbrev AQ:=(V->aa)->aa
abbrev BB:=(O->aa)->aa
def ev1:T1 V->AQ:=@N5.rec V (TQ V) (λ_=>AQ) (λv _ _ _ _ k=>k v)
def Pn(q:QR)(t:TQ V)(k:V->aa):aa:=k (t.get gm.z q)
def Pm:QN QR->T1 V->AQ:=@QN.rec QR (λ_=>T1 V->AQ) ev1 (λq t k=>@N5.rec _ _ (λ_=>(TQ V->AQ)->AQ) (λ_ a _ _ _ g k=>g a k) t (Pn q) k) (λq t k=>@N5.rec _ _ (λ_=>(TQ V->AQ)->AQ) (λ_ _ b _ _ g k=>g b k) t (Pn q) k) (λq t k=>@N5.rec _ _ (λ_=>(TQ V->AQ)->AQ) (λ_ _ _ c _ g k=>g c k) t (Pn q) k) (λq t k=>@N5.rec _ _ (λ_=>(TQ V->AQ)->AQ) (λ_ _ _ _ d g k=>g d k) t (Pn q) k)
abbrev OW:=V->T1 V->(T1 V->aa)->aa
def nv1(v:V)(t:T1 V)(k:T1 V->aa):aa:=@N5.rec V (TQ V) (λ_=>V->(T1 V->aa)->aa) (λ_ a b c d v k=>k (.mk v a b c d)) t v k
abbrev Sv:=V->TQ V->(TQ V->aa)->aa
def QH(q:QR)(v:V)(t:TQ V)(k:TQ V->aa):aa:=k (t.put gm.z v q)
def QG:QN QR->OW:=@QN.rec QR (λ_=>OW) nv1 (λq v t k=>@N5.rec _ _ (λ_=>Sv->V->(T1 V->aa)->aa) (λu a b c d p v k=>p v a λx=>k (.mk u x b c d)) t (QH q) v k) (λq v t k=>@N5.rec _ _ (λ_=>Sv->V->(T1 V->aa)->aa) (λu a b c d p v k=>p v b λx=>k (.mk u a x c d)) t (QH q) v k) (λq v t k=>@N5.rec _ _ (λ_=>Sv->V->(T1 V->aa)->aa) (λu a b c d p v k=>p v c λx=>k (.mk u a b x d)) t (QH q) v k) (λq v t k=>@N5.rec _ _ (λ_=>Sv->V->(T1 V->aa)->aa) (λu a b c d p v k=>p v d λx=>k (.mk u a b c x)) t (QH q) v k)
def ev2:T2 V->AQ:=@N5.rec V (T1 V) (λ_=>AQ) (λv _ _ _ _ k=>k v)
def Pk:QN Q1->T2 V->AQ:=@QN.rec Q1 (λ_=>T2 V->AQ) ev2 (λq t k=>@N5.rec _ _ (λ_=>(T1 V->AQ)->AQ) (λ_ a _ _ _ g k=>g a k) t (Pm q) k) (λq t k=>@N5.rec _ _ (λ_=>(T1 V->AQ)->AQ) (λ_ _ b _ _ g k=>g b k) t (Pm q) k) (λq t k=>@N5.rec _ _ (λ_=>(T1 V->AQ)->AQ) (λ_ _ _ c _ g k=>g c k) t (Pm q) k) (λq t k=>@N5.rec _ _ (λ_=>(T1 V->AQ)->AQ) (λ_ _ _ _ d g k=>g d k) t (Pm q) k)
abbrev OV:=V->T2 V->(T2 V->aa)->aa
def nv2(v:V)(t:T2 V)(k:T2 V->aa):aa:=@N5.rec V (T1 V) (λ_=>V->(T2 V->aa)->aa) (λ_ a b c d v k=>k (.mk v a b c d)) t v k
def QF:QN Q1->OV:=@QN.rec Q1 (λ_=>OV) nv2 (λq v t k=>@N5.rec _ _ (λ_=>OW->V->(T2 V->aa)->aa) (λu a b c d p v k=>p v a λx=>k (.mk u x b c d)) t (QG q) v k) (λq v t k=>@N5.rec _ _ (λ_=>OW->V->(T2 V->aa)->aa) (λu a b c d p v k=>p v b λx=>k (.mk u a x c d)) t (QG q) v k) (λq v t k=>@N5.rec _ _ (λ_=>OW->V->(T2 V->aa)->aa) (λu a b c d p v k=>p v c λx=>k (.mk u a b x d)) t (QG q) v k) (λq v t k=>@N5.rec _ _ (λ_=>OW->V->(T2 V->aa)->aa) (λu a b c d p v k=>p v d λx=>k (.mk u a b c x)) t (QG q) v k)
def ev3:T3 V->AQ:=@N5.rec V (T2 V) (λ_=>AQ) (λv _ _ _ _ k=>k v)
def Pj:QN Q2->T3 V->AQ:=@QN.rec Q2 (λ_=>T3 V->AQ) ev3 (λq t k=>@N5.rec _ _ (λ_=>(T2 V->AQ)->AQ) (λ_ a _ _ _ g k=>g a k) t (Pk q) k) (λq t k=>@N5.rec _ _ (λ_=>(T2 V->AQ)->AQ) (λ_ _ b _ _ g k=>g b k) t (Pk q) k) (λq t k=>@N5.rec _ _ (λ_=>(T2 V->AQ)->AQ) (λ_ _ _ c _ g k=>g c k) t (Pk q) k) (λq t k=>@N5.rec _ _ (λ_=>(T2 V->AQ)->AQ) (λ_ _ _ _ d g k=>g d k) t (Pk q) k)
abbrev OU:=V->T3 V->(T3 V->aa)->aa
def nv3(v:V)(t:T3 V)(k:T3 V->aa):aa:=@N5.rec V (T2 V) (λ_=>V->(T3 V->aa)->aa) (λ_ a b c d v k=>k (.mk v a b c d)) t v k
def QE:QN Q2->OU:=@QN.rec Q2 (λ_=>OU) nv3 (λq v t k=>@N5.rec _ _ (λ_=>OV->V->(T3 V->aa)->aa) (λu a b c d p v k=>p v a λx=>k (.mk u x b c d)) t (QF q) v k) (λq v t k=>@N5.rec _ _ (λ_=>OV->V->(T3 V->aa)->aa) (λu a b c d p v k=>p v b λx=>k (.mk u a x c d)) t (QF q) v k) (λq v t k=>@N5.rec _ _ (λ_=>OV->V->(T3 V->aa)->aa) (λu a b c d p v k=>p v c λx=>k (.mk u a b x d)) t (QF q) v k) (λq v t k=>@N5.rec _ _ (λ_=>OV->V->(T3 V->aa)->aa) (λu a b c d p v k=>p v d λx=>k (.mk u a b c x)) t (QF q) v k)
def ev4:T4 V->AQ:=@N5.rec V (T3 V) (λ_=>AQ) (λv _ _ _ _ k=>k v)
def Ph:QN Q3->T4 V->AQ:=@QN.rec Q3 (λ_=>T4 V->AQ) ev4 (λq t k=>@N5.rec _ _ (λ_=>(T3 V->AQ)->AQ) (λ_ a _ _ _ g k=>g a k) t (Pj q) k) (λq t k=>@N5.rec _ _ (λ_=>(T3 V->AQ)->AQ) (λ_ _ b _ _ g k=>g b k) t (Pj q) k) (λq t k=>@N5.rec _ _ (λ_=>(T3 V->AQ)->AQ) (λ_ _ _ c _ g k=>g c k) t (Pj q) k) (λq t k=>@N5.rec _ _ (λ_=>(T3 V->AQ)->AQ) (λ_ _ _ _ d g k=>g d k) t (Pj q) k)
abbrev OT:=V->T4 V->(T4 V->aa)->aa
def nv4(v:V)(t:T4 V)(k:T4 V->aa):aa:=@N5.rec V (T3 V) (λ_=>V->(T4 V->aa)->aa) (λ_ a b c d v k=>k (.mk v a b c d)) t v k
def QD:QN Q3->OT:=@QN.rec Q3 (λ_=>OT) nv4 (λq v t k=>@N5.rec _ _ (λ_=>OU->V->(T4 V->aa)->aa) (λu a b c d p v k=>p v a λx=>k (.mk u x b c d)) t (QE q) v k) (λq v t k=>@N5.rec _ _ (λ_=>OU->V->(T4 V->aa)->aa) (λu a b c d p v k=>p v b λx=>k (.mk u a x c d)) t (QE q) v k) (λq v t k=>@N5.rec _ _ (λ_=>OU->V->(T4 V->aa)->aa) (λu a b c d p v k=>p v c λx=>k (.mk u a b x d)) t (QE q) v k) (λq v t k=>@N5.rec _ _ (λ_=>OU->V->(T4 V->aa)->aa) (λu a b c d p v k=>p v d λx=>k (.mk u a b c x)) t (QE q) v k)
def ev5:T5 V->AQ:=@N5.rec V (T4 V) (λ_=>AQ) (λv _ _ _ _ k=>k v)
def Pf:QN Q4->T5 V->AQ:=@QN.rec Q4 (λ_=>T5 V->AQ) ev5 (λq t k=>@N5.rec _ _ (λ_=>(T4 V->AQ)->AQ) (λ_ a _ _ _ g k=>g a k) t (Ph q) k) (λq t k=>@N5.rec _ _ (λ_=>(T4 V->AQ)->AQ) (λ_ _ b _ _ g k=>g b k) t (Ph q) k) (λq t k=>@N5.rec _ _ (λ_=>(T4 V->AQ)->AQ) (λ_ _ _ c _ g k=>g c k) t (Ph q) k) (λq t k=>@N5.rec _ _ (λ_=>(T4 V->AQ)->AQ) (λ_ _ _ _ d g k=>g d k) t (Ph q) k)
abbrev OS:=V->T5 V->(T5 V->aa)->aa
def nv5(v:V)(t:T5 V)(k:T5 V->aa):aa:=@N5.rec V (T4 V) (λ_=>V->(T5 V->aa)->aa) (λ_ a b c d v k=>k (.mk v a b c d)) t v k
def QC:QN Q4->OS:=@QN.rec Q4 (λ_=>OS) nv5 (λq v t k=>@N5.rec _ _ (λ_=>OT->V->(T5 V->aa)->aa) (λu a b c d p v k=>p v a λx=>k (.mk u x b c d)) t (QD q) v k) (λq v t k=>@N5.rec _ _ (λ_=>OT->V->(T5 V->aa)->aa) (λu a b c d p v k=>p v b λx=>k (.mk u a x c d)) t (QD q) v k) (λq v t k=>@N5.rec _ _ (λ_=>OT->V->(T5 V->aa)->aa) (λu a b c d p v k=>p v c λx=>k (.mk u a b x d)) t (QD q) v k) (λq v t k=>@N5.rec _ _ (λ_=>OT->V->(T5 V->aa)->aa) (λu a b c d p v k=>p v d λx=>k (.mk u a b c x)) t (QD q) v k)
def VG:T6 V->AQ:=@N5.rec V (T5 V) (λ_=>AQ) (λv _ _ _ _ k=>k v)
def Pe:QN Q5->T6 V->AQ:=@QN.rec Q5 (λ_=>T6 V->AQ) VG (λq t k=>@N5.rec _ _ (λ_=>(T5 V->AQ)->AQ) (λ_ a _ _ _ g k=>g a k) t (Pf q) k) (λq t k=>@N5.rec _ _ (λ_=>(T5 V->AQ)->AQ) (λ_ _ b _ _ g k=>g b k) t (Pf q) k) (λq t k=>@N5.rec _ _ (λ_=>(T5 V->AQ)->AQ) (λ_ _ _ c _ g k=>g c k) t (Pf q) k) (λq t k=>@N5.rec _ _ (λ_=>(T5 V->AQ)->AQ) (λ_ _ _ _ d g k=>g d k) t (Pf q) k)
abbrev JQ:=V->T6 V->(T6 V->aa)->aa
def Td(v:V)(t:T6 V)(k:T6 V->aa):aa:=@N5.rec V (T5 V) (λ_=>V->(T6 V->aa)->aa) (λ_ a b c d v k=>k (.mk v a b c d)) t v k
def QB:QN Q5->JQ:=@QN.rec Q5 (λ_=>JQ) Td (λq v t k=>@N5.rec _ _ (λ_=>OS->V->(T6 V->aa)->aa) (λu a b c d p v k=>p v a λx=>k (.mk u x b c d)) t (QC q) v k) (λq v t k=>@N5.rec _ _ (λ_=>OS->V->(T6 V->aa)->aa) (λu a b c d p v k=>p v b λx=>k (.mk u a x c d)) t (QC q) v k) (λq v t k=>@N5.rec _ _ (λ_=>OS->V->(T6 V->aa)->aa) (λu a b c d p v k=>p v c λx=>k (.mk u a b x d)) t (QC q) v k) (λq v t k=>@N5.rec _ _ (λ_=>OS->V->(T6 V->aa)->aa) (λu a b c d p v k=>p v d λx=>k (.mk u a b c x)) t (QC q) v k)
def VF:T7 V->AQ:=@N5.rec V (T6 V) (λ_=>AQ) (λv _ _ _ _ k=>k v)
def ZE(g:T6 V->AQ)(t:T7 V)(k:V->aa):aa:=@N5.rec V (T6 V) (λ_=>(T6 V->AQ)->AQ) (λ_ a _ _ _ g k=>g a k) t g k
def ZD(g:T6 V->AQ)(t:T7 V)(k:V->aa):aa:=@N5.rec V (T6 V) (λ_=>(T6 V->AQ)->AQ) (λ_ _ b _ _ g k=>g b k) t g k
def ZC(g:T6 V->AQ)(t:T7 V)(k:V->aa):aa:=@N5.rec V (T6 V) (λ_=>(T6 V->AQ)->AQ) (λ_ _ _ c _ g k=>g c k) t g k
def ZB(g:T6 V->AQ)(t:T7 V)(k:V->aa):aa:=@N5.rec V (T6 V) (λ_=>(T6 V->AQ)->AQ) (λ_ _ _ _ d g k=>g d k) t g k
def Pd:QN Q6->T7 V->AQ:=@QN.rec Q6 (λ_=>T7 V->AQ) VF (λq=>ZE (Pe q)) (λq=>ZD (Pe q)) (λq=>ZC (Pe q)) (λq=>ZB (Pe q))
abbrev JP:=V->T7 V->(T7 V->aa)->aa
def Tc(v:V)(t:T7 V)(k:T7 V->aa):aa:=@N5.rec V (T6 V) (λ_=>V->(T7 V->aa)->aa) (λ_ a b c d v k=>k (.mk v a b c d)) t v k
def ZO(p:JQ)(v:V)(t:T7 V)(k:T7 V->aa):aa:=@N5.rec V (T6 V) (λ_=>JQ->V->(T7 V->aa)->aa) (λu a b c d p v k=>p v a λx=>k (.mk u x b c d)) t p v k
def ZN(p:JQ)(v:V)(t:T7 V)(k:T7 V->aa):aa:=@N5.rec V (T6 V) (λ_=>JQ->V->(T7 V->aa)->aa) (λu a b c d p v k=>p v b λx=>k (.mk u a x c d)) t p v k
def ZM(p:JQ)(v:V)(t:T7 V)(k:T7 V->aa):aa:=@N5.rec V (T6 V) (λ_=>JQ->V->(T7 V->aa)->aa) (λu a b c d p v k=>p v c λx=>k (.mk u a b x d)) t p v k
def ZL(p:JQ)(v:V)(t:T7 V)(k:T7 V->aa):aa:=@N5.rec V (T6 V) (λ_=>JQ->V->(T7 V->aa)->aa) (λu a b c d p v k=>p v d λx=>k (.mk u a b c x)) t p v k
def QA:QN Q6->JP:=@QN.rec Q6 (λ_=>JP) Tc (λq=>ZO (QB q)) (λq=>ZN (QB q)) (λq=>ZM (QB q)) (λq=>ZL (QB q))
def VE:T8 V->AQ:=@N5.rec V (T7 V) (λ_=>AQ) (λv _ _ _ _ k=>k v)
def ZA(g:T7 V->AQ)(t:T8 V)(k:V->aa):aa:=@N5.rec V (T7 V) (λ_=>(T7 V->AQ)->AQ) (λ_ a _ _ _ g k=>g a k) t g k
def Yz(g:T7 V->AQ)(t:T8 V)(k:V->aa):aa:=@N5.rec V (T7 V) (λ_=>(T7 V->AQ)->AQ) (λ_ _ b _ _ g k=>g b k) t g k
def Yy(g:T7 V->AQ)(t:T8 V)(k:V->aa):aa:=@N5.rec V (T7 V) (λ_=>(T7 V->AQ)->AQ) (λ_ _ _ c _ g k=>g c k) t g k
def Yx(g:T7 V->AQ)(t:T8 V)(k:V->aa):aa:=@N5.rec V (T7 V) (λ_=>(T7 V->AQ)->AQ) (λ_ _ _ _ d g k=>g d k) t g k
def Pc:QN Q7->T8 V->AQ:=@QN.rec Q7 (λ_=>T8 V->AQ) VE (λq=>ZA (Pd q)) (λq=>Yz (Pd q)) (λq=>Yy (Pd q)) (λq=>Yx (Pd q))
abbrev JO:=V->T8 V->(T8 V->aa)->aa
def Tb(v:V)(t:T8 V)(k:T8 V->aa):aa:=@N5.rec V (T7 V) (λ_=>V->(T8 V->aa)->aa) (λ_ a b c d v k=>k (.mk v a b c d)) t v k
def ZK(p:JP)(v:V)(t:T8 V)(k:T8 V->aa):aa:=@N5.rec V (T7 V) (λ_=>JP->V->(T8 V->aa)->aa) (λu a b c d p v k=>p v a λx=>k (.mk u x b c d)) t p v k
def ZJ(p:JP)(v:V)(t:T8 V)(k:T8 V->aa):aa:=@N5.rec V (T7 V) (λ_=>JP->V->(T8 V->aa)->aa) (λu a b c d p v k=>p v b λx=>k (.mk u a x c d)) t p v k
def ZZ(p:JP)(v:V)(t:T8 V)(k:T8 V->aa):aa:=@N5.rec V (T7 V) (λ_=>JP->V->(T8 V->aa)->aa) (λu a b c d p v k=>p v c λx=>k (.mk u a b x d)) t p v k
def ZY(p:JP)(v:V)(t:T8 V)(k:T8 V->aa):aa:=@N5.rec V (T7 V) (λ_=>JP->V->(T8 V->aa)->aa) (λu a b c d p v k=>p v d λx=>k (.mk u a b c x)) t p v k
def Pz:QN Q7->JO:=@QN.rec Q7 (λ_=>JO) Tb (λq=>ZK (QA q)) (λq=>ZJ (QA q)) (λq=>ZZ (QA q)) (λq=>ZY (QA q))
def VD:T9 V->AQ:=@N5.rec V (T8 V) (λ_=>AQ) (λv _ _ _ _ k=>k v)
def Yw(g:T8 V->AQ)(t:T9 V)(k:V->aa):aa:=@N5.rec V (T8 V) (λ_=>(T8 V->AQ)->AQ) (λ_ a _ _ _ g k=>g a k) t g k
def Yv(g:T8 V->AQ)(t:T9 V)(k:V->aa):aa:=@N5.rec V (T8 V) (λ_=>(T8 V->AQ)->AQ) (λ_ _ b _ _ g k=>g b k) t g k
def Yu(g:T8 V->AQ)(t:T9 V)(k:V->aa):aa:=@N5.rec V (T8 V) (λ_=>(T8 V->AQ)->AQ) (λ_ _ _ c _ g k=>g c k) t g k
def Yt(g:T8 V->AQ)(t:T9 V)(k:V->aa):aa:=@N5.rec V (T8 V) (λ_=>(T8 V->AQ)->AQ) (λ_ _ _ _ d g k=>g d k) t g k
def Pb:QN Q8->T9 V->AQ:=@QN.rec Q8 (λ_=>T9 V->AQ) VD (λq=>Yw (Pc q)) (λq=>Yv (Pc q)) (λq=>Yu (Pc q)) (λq=>Yt (Pc q))
abbrev JN:=V->T9 V->(T9 V->aa)->aa
def Ta(v:V)(t:T9 V)(k:T9 V->aa):aa:=@N5.rec V (T8 V) (λ_=>V->(T9 V->aa)->aa) (λ_ a b c d v k=>k (.mk v a b c d)) t v k
def ZX(p:JO)(v:V)(t:T9 V)(k:T9 V->aa):aa:=@N5.rec V (T8 V) (λ_=>JO->V->(T9 V->aa)->aa) (λu a b c d p v k=>p v a λx=>k (.mk u x b c d)) t p v k
def ZW(p:JO)(v:V)(t:T9 V)(k:T9 V->aa):aa:=@N5.rec V (T8 V) (λ_=>JO->V->(T9 V->aa)->aa) (λu a b c d p v k=>p v b λx=>k (.mk u a x c d)) t p v k
def ZV(p:JO)(v:V)(t:T9 V)(k:T9 V->aa):aa:=@N5.rec V (T8 V) (λ_=>JO->V->(T9 V->aa)->aa) (λu a b c d p v k=>p v c λx=>k (.mk u a b x d)) t p v k
def ZU(p:JO)(v:V)(t:T9 V)(k:T9 V->aa):aa:=@N5.rec V (T8 V) (λ_=>JO->V->(T9 V->aa)->aa) (λu a b c d p v k=>p v d λx=>k (.mk u a b c x)) t p v k
def Py:QN Q8->JN:=@QN.rec Q8 (λ_=>JN) Ta (λq=>ZX (Pz q)) (λq=>ZW (Pz q)) (λq=>ZV (Pz q)) (λq=>ZU (Pz q))
def Vo:N5 V (T9 V)->AQ:=@N5.rec V (T9 V) (λ_=>AQ) (λv _ _ _ _ k=>k v)
def aLa(g:T9 V->AQ)(t:N5 V (T9 V))(k:V->aa):aa:=@N5.rec V (T9 V) (λ_=>(T9 V->AQ)->AQ) (λ_ a _ _ _ g k=>g a k) t g k
def aLb(g:T9 V->AQ)(t:N5 V (T9 V))(k:V->aa):aa:=@N5.rec V (T9 V) (λ_=>(T9 V->AQ)->AQ) (λ_ _ b _ _ g k=>g b k) t g k
def aLc(g:T9 V->AQ)(t:N5 V (T9 V))(k:V->aa):aa:=@N5.rec V (T9 V) (λ_=>(T9 V->AQ)->AQ) (λ_ _ _ c _ g k=>g c k) t g k
def aLd(g:T9 V->AQ)(t:N5 V (T9 V))(k:V->aa):aa:=@N5.rec V (T9 V) (λ_=>(T9 V->AQ)->AQ) (λ_ _ _ _ d g k=>g d k) t g k
def Za:QN Q9->N5 V (T9 V)->AQ:=@QN.rec Q9 (λ_=>N5 V (T9 V)->AQ) Vo (λq=>aLa (Pb q)) (λq=>aLb (Pb q)) (λq=>aLc (Pb q)) (λq=>aLd (Pb q))
abbrev RC:=V->N5 V (T9 V)->(N5 V (T9 V)->aa)->aa
def Vj(v:V)(t:N5 V (T9 V))(k:N5 V (T9 V)->aa):aa:=@N5.rec V (T9 V) (λ_=>V->(N5 V (T9 V)->aa)->aa) (λ_ a b c d v k=>k (.mk v a b c d)) t v k
def aKX(p:JN)(v:V)(t:N5 V (T9 V))(k:N5 V (T9 V)->aa):aa:=@N5.rec V (T9 V) (λ_=>JN->V->(N5 V (T9 V)->aa)->aa) (λu a b c d p v k=>p v a λx=>k (.mk u x b c d)) t p v k
def aKY(p:JN)(v:V)(t:N5 V (T9 V))(k:N5 V (T9 V)->aa):aa:=@N5.rec V (T9 V) (λ_=>JN->V->(N5 V (T9 V)->aa)->aa) (λu a b c d p v k=>p v b λx=>k (.mk u a x c d)) t p v k
def aKZ(p:JN)(v:V)(t:N5 V (T9 V))(k:N5 V (T9 V)->aa):aa:=@N5.rec V (T9 V) (λ_=>JN->V->(N5 V (T9 V)->aa)->aa) (λu a b c d p v k=>p v c λx=>k (.mk u a b x d)) t p v k
def UC(p:JN)(v:V)(t:N5 V (T9 V))(k:N5 V (T9 V)->aa):aa:=@N5.rec V (T9 V) (λ_=>JN->V->(N5 V (T9 V)->aa)->aa) (λu a b c d p v k=>p v d λx=>k (.mk u a b c x)) t p v k
def Zd:QN Q9->RC:=@QN.rec Q9 (λ_=>RC) Vj (λq=>aKX (Py q)) (λq=>aKY (Py q)) (λq=>aKZ (Py q)) (λq=>UC (Py q))
def eo1:T1 O->BB:=@N5.rec O (TQ O) (λ_=>BB) (λv _ _ _ _ k=>k v)
def Px(q:QR)(t:TQ O)(k:O->aa):aa:=k (t.get gm.z q)
def Pw:QN QR->T1 O->BB:=@QN.rec QR (λ_=>T1 O->BB) eo1 (λq t k=>@N5.rec _ _ (λ_=>(TQ O->BB)->BB) (λ_ a _ _ _ g k=>g a k) t (Px q) k) (λq t k=>@N5.rec _ _ (λ_=>(TQ O->BB)->BB) (λ_ _ b _ _ g k=>g b k) t (Px q) k) (λq t k=>@N5.rec _ _ (λ_=>(TQ O->BB)->BB) (λ_ _ _ c _ g k=>g c k) t (Px q) k) (λq t k=>@N5.rec _ _ (λ_=>(TQ O->BB)->BB) (λ_ _ _ _ d g k=>g d k) t (Px q) k)
abbrev O5:=O->T1 O->(T1 O->aa)->aa
def no1(v:O)(t:T1 O)(k:T1 O->aa):aa:=@N5.rec O (TQ O) (λ_=>O->(T1 O->aa)->aa) (λ_ a b c d v k=>k (.mk v a b c d)) t v k
abbrev Sx:=O->TQ O->(TQ O->aa)->aa
def QT(q:QR)(v:O)(t:TQ O)(k:TQ O->aa):aa:=k (t.put gm.z v q)
def QS:QN QR->O5:=@QN.rec QR (λ_=>O5) no1 (λq v t k=>@N5.rec _ _ (λ_=>Sx->O->(T1 O->aa)->aa) (λu a b c d p v k=>p v a λx=>k (.mk u x b c d)) t (QT q) v k) (λq v t k=>@N5.rec _ _ (λ_=>Sx->O->(T1 O->aa)->aa) (λu a b c d p v k=>p v b λx=>k (.mk u a x c d)) t (QT q) v k) (λq v t k=>@N5.rec _ _ (λ_=>Sx->O->(T1 O->aa)->aa) (λu a b c d p v k=>p v c λx=>k (.mk u a b x d)) t (QT q) v k) (λq v t k=>@N5.rec _ _ (λ_=>Sx->O->(T1 O->aa)->aa) (λu a b c d p v k=>p v d λx=>k (.mk u a b c x)) t (QT q) v k)
def eo2:T2 O->BB:=@N5.rec O (T1 O) (λ_=>BB) (λv _ _ _ _ k=>k v)
def go2:QN Q1->T2 O->BB:=@QN.rec Q1 (λ_=>T2 O->BB) eo2 (λq t k=>@N5.rec _ _ (λ_=>(T1 O->BB)->BB) (λ_ a _ _ _ g k=>g a k) t (Pw q) k) (λq t k=>@N5.rec _ _ (λ_=>(T1 O->BB)->BB) (λ_ _ b _ _ g k=>g b k) t (Pw q) k) (λq t k=>@N5.rec _ _ (λ_=>(T1 O->BB)->BB) (λ_ _ _ c _ g k=>g c k) t (Pw q) k) (λq t k=>@N5.rec _ _ (λ_=>(T1 O->BB)->BB) (λ_ _ _ _ d g k=>g d k) t (Pw q) k)
abbrev O4:=O->T2 O->(T2 O->aa)->aa
def no2(v:O)(t:T2 O)(k:T2 O->aa):aa:=@N5.rec O (T1 O) (λ_=>O->(T2 O->aa)->aa) (λ_ a b c d v k=>k (.mk v a b c d)) t v k
def QQ:QN Q1->O4:=@QN.rec Q1 (λ_=>O4) no2 (λq v t k=>@N5.rec _ _ (λ_=>O5->O->(T2 O->aa)->aa) (λu a b c d p v k=>p v a λx=>k (.mk u x b c d)) t (QS q) v k) (λq v t k=>@N5.rec _ _ (λ_=>O5->O->(T2 O->aa)->aa) (λu a b c d p v k=>p v b λx=>k (.mk u a x c d)) t (QS q) v k) (λq v t k=>@N5.rec _ _ (λ_=>O5->O->(T2 O->aa)->aa) (λu a b c d p v k=>p v c λx=>k (.mk u a b x d)) t (QS q) v k) (λq v t k=>@N5.rec _ _ (λ_=>O5->O->(T2 O->aa)->aa) (λu a b c d p v k=>p v d λx=>k (.mk u a b c x)) t (QS q) v k)
def eo3:T3 O->BB:=@N5.rec O (T2 O) (λ_=>BB) (λv _ _ _ _ k=>k v)
def Pv:QN Q2->T3 O->BB:=@QN.rec Q2 (λ_=>T3 O->BB) eo3 (λq t k=>@N5.rec _ _ (λ_=>(T2 O->BB)->BB) (λ_ a _ _ _ g k=>g a k) t (go2 q) k) (λq t k=>@N5.rec _ _ (λ_=>(T2 O->BB)->BB) (λ_ _ b _ _ g k=>g b k) t (go2 q) k) (λq t k=>@N5.rec _ _ (λ_=>(T2 O->BB)->BB) (λ_ _ _ c _ g k=>g c k) t (go2 q) k) (λq t k=>@N5.rec _ _ (λ_=>(T2 O->BB)->BB) (λ_ _ _ _ d g k=>g d k) t (go2 q) k)
abbrev O3:=O->T3 O->(T3 O->aa)->aa
def no3(v:O)(t:T3 O)(k:T3 O->aa):aa:=@N5.rec O (T2 O) (λ_=>O->(T3 O->aa)->aa) (λ_ a b c d v k=>k (.mk v a b c d)) t v k
def QP:QN Q2->O3:=@QN.rec Q2 (λ_=>O3) no3 (λq v t k=>@N5.rec _ _ (λ_=>O4->O->(T3 O->aa)->aa) (λu a b c d p v k=>p v a λx=>k (.mk u x b c d)) t (QQ q) v k) (λq v t k=>@N5.rec _ _ (λ_=>O4->O->(T3 O->aa)->aa) (λu a b c d p v k=>p v b λx=>k (.mk u a x c d)) t (QQ q) v k) (λq v t k=>@N5.rec _ _ (λ_=>O4->O->(T3 O->aa)->aa) (λu a b c d p v k=>p v c λx=>k (.mk u a b x d)) t (QQ q) v k) (λq v t k=>@N5.rec _ _ (λ_=>O4->O->(T3 O->aa)->aa) (λu a b c d p v k=>p v d λx=>k (.mk u a b c x)) t (QQ q) v k)
def eo4:T4 O->BB:=@N5.rec O (T3 O) (λ_=>BB) (λv _ _ _ _ k=>k v)
def Pu:QN Q3->T4 O->BB:=@QN.rec Q3 (λ_=>T4 O->BB) eo4 (λq t k=>@N5.rec _ _ (λ_=>(T3 O->BB)->BB) (λ_ a _ _ _ g k=>g a k) t (Pv q) k) (λq t k=>@N5.rec _ _ (λ_=>(T3 O->BB)->BB) (λ_ _ b _ _ g k=>g b k) t (Pv q) k) (λq t k=>@N5.rec _ _ (λ_=>(T3 O->BB)->BB) (λ_ _ _ c _ g k=>g c k) t (Pv q) k) (λq t k=>@N5.rec _ _ (λ_=>(T3 O->BB)->BB) (λ_ _ _ _ d g k=>g d k) t (Pv q) k)
abbrev O2:=O->T4 O->(T4 O->aa)->aa
def no4(v:O)(t:T4 O)(k:T4 O->aa):aa:=@N5.rec O (T3 O) (λ_=>O->(T4 O->aa)->aa) (λ_ a b c d v k=>k (.mk v a b c d)) t v k
def QO:QN Q3->O2:=@QN.rec Q3 (λ_=>O2) no4 (λq v t k=>@N5.rec _ _ (λ_=>O3->O->(T4 O->aa)->aa) (λu a b c d p v k=>p v a λx=>k (.mk u x b c d)) t (QP q) v k) (λq v t k=>@N5.rec _ _ (λ_=>O3->O->(T4 O->aa)->aa) (λu a b c d p v k=>p v b λx=>k (.mk u a x c d)) t (QP q) v k) (λq v t k=>@N5.rec _ _ (λ_=>O3->O->(T4 O->aa)->aa) (λu a b c d p v k=>p v c λx=>k (.mk u a b x d)) t (QP q) v k) (λq v t k=>@N5.rec _ _ (λ_=>O3->O->(T4 O->aa)->aa) (λu a b c d p v k=>p v d λx=>k (.mk u a b c x)) t (QP q) v k)
def eo5:T5 O->BB:=@N5.rec O (T4 O) (λ_=>BB) (λv _ _ _ _ k=>k v)
def Ps:QN Q4->T5 O->BB:=@QN.rec Q4 (λ_=>T5 O->BB) eo5 (λq t k=>@N5.rec _ _ (λ_=>(T4 O->BB)->BB) (λ_ a _ _ _ g k=>g a k) t (Pu q) k) (λq t k=>@N5.rec _ _ (λ_=>(T4 O->BB)->BB) (λ_ _ b _ _ g k=>g b k) t (Pu q) k) (λq t k=>@N5.rec _ _ (λ_=>(T4 O->BB)->BB) (λ_ _ _ c _ g k=>g c k) t (Pu q) k) (λq t k=>@N5.rec _ _ (λ_=>(T4 O->BB)->BB) (λ_ _ _ _ d g k=>g d k) t (Pu q) k)
abbrev O1:=O->T5 O->(T5 O->aa)->aa
def no5(v:O)(t:T5 O)(k:T5 O->aa):aa:=@N5.rec O (T4 O) (λ_=>O->(T5 O->aa)->aa) (λ_ a b c d v k=>k (.mk v a b c d)) t v k
def QM:QN Q4->O1:=@QN.rec Q4 (λ_=>O1) no5 (λq v t k=>@N5.rec _ _ (λ_=>O2->O->(T5 O->aa)->aa) (λu a b c d p v k=>p v a λx=>k (.mk u x b c d)) t (QO q) v k) (λq v t k=>@N5.rec _ _ (λ_=>O2->O->(T5 O->aa)->aa) (λu a b c d p v k=>p v b λx=>k (.mk u a x c d)) t (QO q) v k) (λq v t k=>@N5.rec _ _ (λ_=>O2->O->(T5 O->aa)->aa) (λu a b c d p v k=>p v c λx=>k (.mk u a b x d)) t (QO q) v k) (λq v t k=>@N5.rec _ _ (λ_=>O2->O->(T5 O->aa)->aa) (λu a b c d p v k=>p v d λx=>k (.mk u a b c x)) t (QO q) v k)
def eo6:T6 O->BB:=@N5.rec O (T5 O) (λ_=>BB) (λv _ _ _ _ k=>k v)
def Pr:QN Q5->T6 O->BB:=@QN.rec Q5 (λ_=>T6 O->BB) eo6 (λq t k=>@N5.rec _ _ (λ_=>(T5 O->BB)->BB) (λ_ a _ _ _ g k=>g a k) t (Ps q) k) (λq t k=>@N5.rec _ _ (λ_=>(T5 O->BB)->BB) (λ_ _ b _ _ g k=>g b k) t (Ps q) k) (λq t k=>@N5.rec _ _ (λ_=>(T5 O->BB)->BB) (λ_ _ _ c _ g k=>g c k) t (Ps q) k) (λq t k=>@N5.rec _ _ (λ_=>(T5 O->BB)->BB) (λ_ _ _ _ d g k=>g d k) t (Ps q) k)
abbrev O0:=O->T6 O->(T6 O->aa)->aa
def no6(v:O)(t:T6 O)(k:T6 O->aa):aa:=@N5.rec O (T5 O) (λ_=>O->(T6 O->aa)->aa) (λ_ a b c d v k=>k (.mk v a b c d)) t v k
def QL:QN Q5->O0:=@QN.rec Q5 (λ_=>O0) no6 (λq v t k=>@N5.rec _ _ (λ_=>O1->O->(T6 O->aa)->aa) (λu a b c d p v k=>p v a λx=>k (.mk u x b c d)) t (QM q) v k) (λq v t k=>@N5.rec _ _ (λ_=>O1->O->(T6 O->aa)->aa) (λu a b c d p v k=>p v b λx=>k (.mk u a x c d)) t (QM q) v k) (λq v t k=>@N5.rec _ _ (λ_=>O1->O->(T6 O->aa)->aa) (λu a b c d p v k=>p v c λx=>k (.mk u a b x d)) t (QM q) v k) (λq v t k=>@N5.rec _ _ (λ_=>O1->O->(T6 O->aa)->aa) (λu a b c d p v k=>p v d λx=>k (.mk u a b c x)) t (QM q) v k)
def eo7:T7 O->BB:=@N5.rec O (T6 O) (λ_=>BB) (λv _ _ _ _ k=>k v)
def Pq:QN Q6->T7 O->BB:=@QN.rec Q6 (λ_=>T7 O->BB) eo7 (λq t k=>@N5.rec _ _ (λ_=>(T6 O->BB)->BB) (λ_ a _ _ _ g k=>g a k) t (Pr q) k) (λq t k=>@N5.rec _ _ (λ_=>(T6 O->BB)->BB) (λ_ _ b _ _ g k=>g b k) t (Pr q) k) (λq t k=>@N5.rec _ _ (λ_=>(T6 O->BB)->BB) (λ_ _ _ c _ g k=>g c k) t (Pr q) k) (λq t k=>@N5.rec _ _ (λ_=>(T6 O->BB)->BB) (λ_ _ _ _ d g k=>g d k) t (Pr q) k)
abbrev OZ:=O->T7 O->(T7 O->aa)->aa
def no7(v:O)(t:T7 O)(k:T7 O->aa):aa:=@N5.rec O (T6 O) (λ_=>O->(T7 O->aa)->aa) (λ_ a b c d v k=>k (.mk v a b c d)) t v k
def QK:QN Q6->OZ:=@QN.rec Q6 (λ_=>OZ) no7 (λq v t k=>@N5.rec _ _ (λ_=>O0->O->(T7 O->aa)->aa) (λu a b c d p v k=>p v a λx=>k (.mk u x b c d)) t (QL q) v k) (λq v t k=>@N5.rec _ _ (λ_=>O0->O->(T7 O->aa)->aa) (λu a b c d p v k=>p v b λx=>k (.mk u a x c d)) t (QL q) v k) (λq v t k=>@N5.rec _ _ (λ_=>O0->O->(T7 O->aa)->aa) (λu a b c d p v k=>p v c λx=>k (.mk u a b x d)) t (QL q) v k) (λq v t k=>@N5.rec _ _ (λ_=>O0->O->(T7 O->aa)->aa) (λu a b c d p v k=>p v d λx=>k (.mk u a b c x)) t (QL q) v k)
def eo8:T8 O->BB:=@N5.rec O (T7 O) (λ_=>BB) (λv _ _ _ _ k=>k v)
def Pp:QN Q7->T8 O->BB:=@QN.rec Q7 (λ_=>T8 O->BB) eo8 (λq t k=>@N5.rec _ _ (λ_=>(T7 O->BB)->BB) (λ_ a _ _ _ g k=>g a k) t (Pq q) k) (λq t k=>@N5.rec _ _ (λ_=>(T7 O->BB)->BB) (λ_ _ b _ _ g k=>g b k) t (Pq q) k) (λq t k=>@N5.rec _ _ (λ_=>(T7 O->BB)->BB) (λ_ _ _ c _ g k=>g c k) t (Pq q) k) (λq t k=>@N5.rec _ _ (λ_=>(T7 O->BB)->BB) (λ_ _ _ _ d g k=>g d k) t (Pq q) k)
abbrev OY:=O->T8 O->(T8 O->aa)->aa
def no8(v:O)(t:T8 O)(k:T8 O->aa):aa:=@N5.rec O (T7 O) (λ_=>O->(T8 O->aa)->aa) (λ_ a b c d v k=>k (.mk v a b c d)) t v k
def QJ:QN Q7->OY:=@QN.rec Q7 (λ_=>OY) no8 (λq v t k=>@N5.rec _ _ (λ_=>OZ->O->(T8 O->aa)->aa) (λu a b c d p v k=>p v a λx=>k (.mk u x b c d)) t (QK q) v k) (λq v t k=>@N5.rec _ _ (λ_=>OZ->O->(T8 O->aa)->aa) (λu a b c d p v k=>p v b λx=>k (.mk u a x c d)) t (QK q) v k) (λq v t k=>@N5.rec _ _ (λ_=>OZ->O->(T8 O->aa)->aa) (λu a b c d p v k=>p v c λx=>k (.mk u a b x d)) t (QK q) v k) (λq v t k=>@N5.rec _ _ (λ_=>OZ->O->(T8 O->aa)->aa) (λu a b c d p v k=>p v d λx=>k (.mk u a b c x)) t (QK q) v k)
def eo9:T9 O->BB:=@N5.rec O (T8 O) (λ_=>BB) (λv _ _ _ _ k=>k v)
def Po:QN Q8->T9 O->BB:=@QN.rec Q8 (λ_=>T9 O->BB) eo9 (λq t k=>@N5.rec _ _ (λ_=>(T8 O->BB)->BB) (λ_ a _ _ _ g k=>g a k) t (Pp q) k) (λq t k=>@N5.rec _ _ (λ_=>(T8 O->BB)->BB) (λ_ _ b _ _ g k=>g b k) t (Pp q) k) (λq t k=>@N5.rec _ _ (λ_=>(T8 O->BB)->BB) (λ_ _ _ c _ g k=>g c k) t (Pp q) k) (λq t k=>@N5.rec _ _ (λ_=>(T8 O->BB)->BB) (λ_ _ _ _ d g k=>g d k) t (Pp q) k)
abbrev OX:=O->T9 O->(T9 O->aa)->aa
def no9(v:O)(t:T9 O)(k:T9 O->aa):aa:=@N5.rec O (T8 O) (λ_=>O->(T9 O->aa)->aa) (λ_ a b c d v k=>k (.mk v a b c d)) t v k
def QI:QN Q8->OX:=@QN.rec Q8 (λ_=>OX) no9 (λq v t k=>@N5.rec _ _ (λ_=>OY->O->(T9 O->aa)->aa) (λu a b c d p v k=>p v a λx=>k (.mk u x b c d)) t (QJ q) v k) (λq v t k=>@N5.rec _ _ (λ_=>OY->O->(T9 O->aa)->aa) (λu a b c d p v k=>p v b λx=>k (.mk u a x c d)) t (QJ q) v k) (λq v t k=>@N5.rec _ _ (λ_=>OY->O->(T9 O->aa)->aa) (λu a b c d p v k=>p v c λx=>k (.mk u a b x d)) t (QJ q) v k) (λq v t k=>@N5.rec _ _ (λ_=>OY->O->(T9 O->aa)->aa) (λu a b c d p v k=>p v d λx=>k (.mk u a b c x)) t (QJ q) v k)
def aWB:N5 O (T9 O)->BB:=@N5.rec O (T9 O) (λ_=>BB) (λv _ _ _ _ k=>k v)
def Zb:QN Q9->N5 O (T9 O)->BB:=@QN.rec Q9 (λ_=>N5 O (T9 O)->BB) aWB (λq t k=>@N5.rec _ _ (λ_=>(T9 O->BB)->BB) (λ_ a _ _ _ g k=>g a k) t (Po q) k) (λq t k=>@N5.rec _ _ (λ_=>(T9 O->BB)->BB) (λ_ _ b _ _ g k=>g b k) t (Po q) k) (λq t k=>@N5.rec _ _ (λ_=>(T9 O->BB)->BB) (λ_ _ _ c _ g k=>g c k) t (Po q) k) (λq t k=>@N5.rec _ _ (λ_=>(T9 O->BB)->BB) (λ_ _ _ _ d g k=>g d k) t (Po q) k)
abbrev aPI:=O->N5 O (T9 O)->(N5 O (T9 O)->aa)->aa
def aWQ(v:O)(t:N5 O (T9 O))(k:N5 O (T9 O)->aa):aa:=@N5.rec O (T9 O) (λ_=>O->(N5 O (T9 O)->aa)->aa) (λ_ a b c d v k=>k (.mk v a b c d)) t v k
def Zf:QN Q9->aPI:=@QN.rec Q9 (λ_=>aPI) aWQ (λq v t k=>@N5.rec _ _ (λ_=>OX->O->(N5 O (T9 O)->aa)->aa) (λu a b c d p v k=>p v a λx=>k (.mk u x b c d)) t (QI q) v k) (λq v t k=>@N5.rec _ _ (λ_=>OX->O->(N5 O (T9 O)->aa)->aa) (λu a b c d p v k=>p v b λx=>k (.mk u a x c d)) t (QI q) v k) (λq v t k=>@N5.rec _ _ (λ_=>OX->O->(N5 O (T9 O)->aa)->aa) (λu a b c d p v k=>p v c λx=>k (.mk u a b x d)) t (QI q) v k) (λq v t k=>@N5.rec _ _ (λ_=>OX->O->(N5 O (T9 O)->aa)->aa) (λu a b c d p v k=>p v d λx=>k (.mk u a b c x)) t (QI q) v k)
def X0(q:QR)(k:QR->aa):aa:=k q.succ
def Qo(p q:QR):Bool:=p.beq q
def XZ:QN QR->(QN QR->aa)->aa:=@QN.rec QR (λ_=>(QN QR->aa)->aa) (λk=>k (.a QR.e)) (λq k=>k (.b q)) (λq k=>k (.c q)) (λq k=>k (.d q)) (λq k=>X0 q λp=>k (.a p))
def Qn:QN QR->QN QR->Bool:=@QN.rec QR (λ_=>QN QR->Bool) (λp=>@QN.rec QR (λ_=>Bool) true (λ_=>false) (λ_=>false) (λ_=>false) (λ_=>false) p) (λq p=>@QN.rec QR (λ_=>QR->Bool) (λ_=>false) (λp q=>Qo q p) (λ_ _=>false) (λ_ _=>false) (λ_ _=>false) p q) (λq p=>@QN.rec QR (λ_=>QR->Bool) (λ_=>false) (λ_ _=>false) (λp q=>Qo q p) (λ_ _=>false) (λ_ _=>false) p q) (λq p=>@QN.rec QR (λ_=>QR->Bool) (λ_=>false) (λ_ _=>false) (λ_ _=>false) (λp q=>Qo q p) (λ_ _=>false) p q) (λq p=>@QN.rec QR (λ_=>QR->Bool) (λ_=>false) (λ_ _=>false) (λ_ _=>false) (λ_ _=>false) (λp q=>Qo q p) p q)
def XY:QN Q1->(QN Q1->aa)->aa:=@QN.rec Q1 (λ_=>(QN Q1->aa)->aa) (λk=>k (.a (QN.e (α:=QR)))) (λq k=>k (.b q)) (λq k=>k (.c q)) (λq k=>k (.d q)) (λq k=>XZ q λp=>k (.a p))
def Qm:QN Q1->QN Q1->Bool:=@QN.rec Q1 (λ_=>QN Q1->Bool) (λp=>@QN.rec Q1 (λ_=>Bool) true (λ_=>false) (λ_=>false) (λ_=>false) (λ_=>false) p) (λq p=>@QN.rec Q1 (λ_=>Q1->Bool) (λ_=>false) (λp q=>Qn q p) (λ_ _=>false) (λ_ _=>false) (λ_ _=>false) p q) (λq p=>@QN.rec Q1 (λ_=>Q1->Bool) (λ_=>false) (λ_ _=>false) (λp q=>Qn q p) (λ_ _=>false) (λ_ _=>false) p q) (λq p=>@QN.rec Q1 (λ_=>Q1->Bool) (λ_=>false) (λ_ _=>false) (λ_ _=>false) (λp q=>Qn q p) (λ_ _=>false) p q) (λq p=>@QN.rec Q1 (λ_=>Q1->Bool) (λ_=>false) (λ_ _=>false) (λ_ _=>false) (λ_ _=>false) (λp q=>Qn q p) p q)
def XX:QN Q2->(QN Q2->aa)->aa:=@QN.rec Q2 (λ_=>(QN Q2->aa)->aa) (λk=>k (.a (QN.e (α:=Q1)))) (λq k=>k (.b q)) (λq k=>k (.c q)) (λq k=>k (.d q)) (λq k=>XY q λp=>k (.a p))
def Qw:QN Q2->QN Q2->Bool:=@QN.rec Q2 (λ_=>QN Q2->Bool) (λp=>@QN.rec Q2 (λ_=>Bool) true (λ_=>false) (λ_=>false) (λ_=>false) (λ_=>false) p) (λq p=>@QN.rec Q2 (λ_=>Q2->Bool) (λ_=>false) (λp q=>Qm q p) (λ_ _=>false) (λ_ _=>false) (λ_ _=>false) p q) (λq p=>@QN.rec Q2 (λ_=>Q2->Bool) (λ_=>false) (λ_ _=>false) (λp q=>Qm q p) (λ_ _=>false) (λ_ _=>false) p q) (λq p=>@QN.rec Q2 (λ_=>Q2->Bool) (λ_=>false) (λ_ _=>false) (λ_ _=>false) (λp q=>Qm q p) (λ_ _=>false) p q) (λq p=>@QN.rec Q2 (λ_=>Q2->Bool) (λ_=>false) (λ_ _=>false) (λ_ _=>false) (λ_ _=>false) (λp q=>Qm q p) p q)
def XW:QN Q3->(QN Q3->aa)->aa:=@QN.rec Q3 (λ_=>(QN Q3->aa)->aa) (λk=>k (.a (QN.e (α:=Q2)))) (λq k=>k (.b q)) (λq k=>k (.c q)) (λq k=>k (.d q)) (λq k=>XX q λp=>k (.a p))
def Qv:QN Q3->QN Q3->Bool:=@QN.rec Q3 (λ_=>QN Q3->Bool) (λp=>@QN.rec Q3 (λ_=>Bool) true (λ_=>false) (λ_=>false) (λ_=>false) (λ_=>false) p) (λq p=>@QN.rec Q3 (λ_=>Q3->Bool) (λ_=>false) (λp q=>Qw q p) (λ_ _=>false) (λ_ _=>false) (λ_ _=>false) p q) (λq p=>@QN.rec Q3 (λ_=>Q3->Bool) (λ_=>false) (λ_ _=>false) (λp q=>Qw q p) (λ_ _=>false) (λ_ _=>false) p q) (λq p=>@QN.rec Q3 (λ_=>Q3->Bool) (λ_=>false) (λ_ _=>false) (λ_ _=>false) (λp q=>Qw q p) (λ_ _=>false) p q) (λq p=>@QN.rec Q3 (λ_=>Q3->Bool) (λ_=>false) (λ_ _=>false) (λ_ _=>false) (λ_ _=>false) (λp q=>Qw q p) p q)
def XV:QN Q4->(QN Q4->aa)->aa:=@QN.rec Q4 (λ_=>(QN Q4->aa)->aa) (λk=>k (.a (QN.e (α:=Q3)))) (λq k=>k (.b q)) (λq k=>k (.c q)) (λq k=>k (.d q)) (λq k=>XW q λp=>k (.a p))
def Qu:QN Q4->QN Q4->Bool:=@QN.rec Q4 (λ_=>QN Q4->Bool) (λp=>@QN.rec Q4 (λ_=>Bool) true (λ_=>false) (λ_=>false) (λ_=>false) (λ_=>false) p) (λq p=>@QN.rec Q4 (λ_=>Q4->Bool) (λ_=>false) (λp q=>Qv q p) (λ_ _=>false) (λ_ _=>false) (λ_ _=>false) p q) (λq p=>@QN.rec Q4 (λ_=>Q4->Bool) (λ_=>false) (λ_ _=>false) (λp q=>Qv q p) (λ_ _=>false) (λ_ _=>false) p q) (λq p=>@QN.rec Q4 (λ_=>Q4->Bool) (λ_=>false) (λ_ _=>false) (λ_ _=>false) (λp q=>Qv q p) (λ_ _=>false) p q) (λq p=>@QN.rec Q4 (λ_=>Q4->Bool) (λ_=>false) (λ_ _=>false) (λ_ _=>false) (λ_ _=>false) (λp q=>Qv q p) p q)
def XU:QN Q5->(QN Q5->aa)->aa:=@QN.rec Q5 (λ_=>(QN Q5->aa)->aa) (λk=>k (.a (QN.e (α:=Q4)))) (λq k=>k (.b q)) (λq k=>k (.c q)) (λq k=>k (.d q)) (λq k=>XV q λp=>k (.a p))
def Qt:QN Q5->QN Q5->Bool:=@QN.rec Q5 (λ_=>QN Q5->Bool) (λp=>@QN.rec Q5 (λ_=>Bool) true (λ_=>false) (λ_=>false) (λ_=>false) (λ_=>false) p) (λq p=>@QN.rec Q5 (λ_=>Q5->Bool) (λ_=>false) (λp q=>Qu q p) (λ_ _=>false) (λ_ _=>false) (λ_ _=>false) p q) (λq p=>@QN.rec Q5 (λ_=>Q5->Bool) (λ_=>false) (λ_ _=>false) (λp q=>Qu q p) (λ_ _=>false) (λ_ _=>false) p q) (λq p=>@QN.rec Q5 (λ_=>Q5->Bool) (λ_=>false) (λ_ _=>false) (λ_ _=>false) (λp q=>Qu q p) (λ_ _=>false) p q) (λq p=>@QN.rec Q5 (λ_=>Q5->Bool) (λ_=>false) (λ_ _=>false) (λ_ _=>false) (λ_ _=>false) (λp q=>Qu q p) p q)
def XT:QN Q6->(QN Q6->aa)->aa:=@QN.rec Q6 (λ_=>(QN Q6->aa)->aa) (λk=>k (.a (QN.e (α:=Q5)))) (λq k=>k (.b q)) (λq k=>k (.c q)) (λq k=>k (.d q)) (λq k=>XU q λp=>k (.a p))
def Qs:QN Q6->QN Q6->Bool:=@QN.rec Q6 (λ_=>QN Q6->Bool) (λp=>@QN.rec Q6 (λ_=>Bool) true (λ_=>false) (λ_=>false) (λ_=>false) (λ_=>false) p) (λq p=>@QN.rec Q6 (λ_=>Q6->Bool) (λ_=>false) (λp q=>Qt q p) (λ_ _=>false) (λ_ _=>false) (λ_ _=>false) p q) (λq p=>@QN.rec Q6 (λ_=>Q6->Bool) (λ_=>false) (λ_ _=>false) (λp q=>Qt q p) (λ_ _=>false) (λ_ _=>false) p q) (λq p=>@QN.rec Q6 (λ_=>Q6->Bool) (λ_=>false) (λ_ _=>false) (λ_ _=>false) (λp q=>Qt q p) (λ_ _=>false) p q) (λq p=>@QN.rec Q6 (λ_=>Q6->Bool) (λ_=>false) (λ_ _=>false) (λ_ _=>false) (λ_ _=>false) (λp q=>Qt q p) p q)
def XS:QN Q7->(QN Q7->aa)->aa:=@QN.rec Q7 (λ_=>(QN Q7->aa)->aa) (λk=>k (.a (QN.e (α:=Q6)))) (λq k=>k (.b q)) (λq k=>k (.c q)) (λq k=>k (.d q)) (λq k=>XT q λp=>k (.a p))
def Qr:QN Q7->QN Q7->Bool:=@QN.rec Q7 (λ_=>QN Q7->Bool) (λp=>@QN.rec Q7 (λ_=>Bool) true (λ_=>false) (λ_=>false) (λ_=>false) (λ_=>false) p) (λq p=>@QN.rec Q7 (λ_=>Q7->Bool) (λ_=>false) (λp q=>Qs q p) (λ_ _=>false) (λ_ _=>false) (λ_ _=>false) p q) (λq p=>@QN.rec Q7 (λ_=>Q7->Bool) (λ_=>false) (λ_ _=>false) (λp q=>Qs q p) (λ_ _=>false) (λ_ _=>false) p q) (λq p=>@QN.rec Q7 (λ_=>Q7->Bool) (λ_=>false) (λ_ _=>false) (λ_ _=>false) (λp q=>Qs q p) (λ_ _=>false) p q) (λq p=>@QN.rec Q7 (λ_=>Q7->Bool) (λ_=>false) (λ_ _=>false) (λ_ _=>false) (λ_ _=>false) (λp q=>Qs q p) p q)
def XQ:QN Q8->(QN Q8->aa)->aa:=@QN.rec Q8 (λ_=>(QN Q8->aa)->aa) (λk=>k (.a (QN.e (α:=Q7)))) (λq k=>k (.b q)) (λq k=>k (.c q)) (λq k=>k (.d q)) (λq k=>XS q λp=>k (.a p))
def Qq:QN Q8->QN Q8->Bool:=@QN.rec Q8 (λ_=>QN Q8->Bool) (λp=>@QN.rec Q8 (λ_=>Bool) true (λ_=>false) (λ_=>false) (λ_=>false) (λ_=>false) p) (λq p=>@QN.rec Q8 (λ_=>Q8->Bool) (λ_=>false) (λp q=>Qr q p) (λ_ _=>false) (λ_ _=>false) (λ_ _=>false) p q) (λq p=>@QN.rec Q8 (λ_=>Q8->Bool) (λ_=>false) (λ_ _=>false) (λp q=>Qr q p) (λ_ _=>false) (λ_ _=>false) p q) (λq p=>@QN.rec Q8 (λ_=>Q8->Bool) (λ_=>false) (λ_ _=>false) (λ_ _=>false) (λp q=>Qr q p) (λ_ _=>false) p q) (λq p=>@QN.rec Q8 (λ_=>Q8->Bool) (λ_=>false) (λ_ _=>false) (λ_ _=>false) (λ_ _=>false) (λp q=>Qr q p) p q)
def ZH:QN Q9->(QN Q9->aa)->aa:=@QN.rec Q9 (λ_=>(QN Q9->aa)->aa) (λk=>k (.a (QN.e (α:=Q8)))) (λq k=>k (.b q)) (λq k=>k (.c q)) (λq k=>k (.d q)) (λq k=>XQ q λp=>k (.a p))
def Wl:QN Q9->QN Q9->Bool:=@QN.rec Q9 (λ_=>QN Q9->Bool) (λp=>@QN.rec Q9 (λ_=>Bool) true (λ_=>false) (λ_=>false) (λ_=>false) (λ_=>false) p) (λq p=>@QN.rec Q9 (λ_=>Q9->Bool) (λ_=>false) (λp q=>Qq q p) (λ_ _=>false) (λ_ _=>false) (λ_ _=>false) p q) (λq p=>@QN.rec Q9 (λ_=>Q9->Bool) (λ_=>false) (λ_ _=>false) (λp q=>Qq q p) (λ_ _=>false) (λ_ _=>false) p q) (λq p=>@QN.rec Q9 (λ_=>Q9->Bool) (λ_=>false) (λ_ _=>false) (λ_ _=>false) (λp q=>Qq q p) (λ_ _=>false) p q) (λq p=>@QN.rec Q9 (λ_=>Q9->Bool) (λ_=>false) (λ_ _=>false) (λ_ _=>false) (λ_ _=>false) (λp q=>Qq q p) p q)
structure S where
 h:T O
 nx:Q
 ds:List Df
abbrev St:=T V->S->aa
abbrev Kr:=V->T O->Q->aa
abbrev Kw:=V->T O->Q->aa
abbrev Cl:=V->List V->Bool->T O->Q->Kr->aa
structure Cx where
 cl:Cl
 f:Q
 rd:Option Q
 env:List (Nat×St)
 kr:St
 ky:Kr
abbrev Xg:=T V->AQ
abbrev Xs:=T V->(List V->aa)->aa
abbrev Dt:=V->T V->(T V->aa)->aa
abbrev Pg:=T V->T O->AQ
abbrev Ag:=T V->(O->(Q->V)->aa)->aa
abbrev Wg:=T V->T O->Q->Kw->aa
abbrev Op:=Cx->St->St
structure D where
 run:Op
def ML(q:Q)(t:T V)(k:V->aa):aa:=Za q t k
def GX(q:Q)(t:T O)(k:O->aa):aa:=Zb q t k
def NM(q:Q)(v:V)(t:T V)(k:T V->aa):aa:=Zd q v t k
def E6(q:Q)(v:O)(t:T O)(k:T O->aa):aa:=Zf q v t k
def IU(q:Q)(k:Q->aa):aa:=ZH q k
def eG:St:=λ_ _=>.bad 200
def eE:St:=λ_ _=>.bad 4
def UX:Kr:=λ_ _ _=>.bad 201
def fN(n:Nat)(k:Nat->aa):aa:=@Nat.rec (λ_=>(Nat->aa)->aa) (λk=>k (nat_lit 0)) (λm _ k=>k (Nat.succ m)) n k
def C7:Bool->Nat->aa->aa:=@Bool.rec (λ_=>Nat->aa->aa) (λn _=>.bad n) (λ_ k=>k)
def a6a:Int->(Nat->aa)->aa:=@Int.rec (λ_=>(Nat->aa)->aa) (λm k=>k m) (λ_ _=>.bad 5)
def ef:IntKind->Nat:=@IntKind.rec (λ_=>Nat) (nat_lit 0) (nat_lit 1) (nat_lit 2) (nat_lit 3) (nat_lit 4) (nat_lit 5) (nat_lit 6) (nat_lit 7)
def Z9:IntKind->Nat:=@IntKind.rec (λ_=>Nat) (nat_lit 127) (nat_lit 32767) (nat_lit 2147483647) (nat_lit 9223372036854775807) (nat_lit 255) (nat_lit 65535) (nat_lit 4294967295) (nat_lit 18446744073709551615)
def Qi(l:Nat):Nat:=Nat.pow (nat_lit 2) (Nat.mul (nat_lit 8) l)
def kJ:Bool->Bool->Bool:=@Bool.rec (λ_=>Bool->Bool) (λ_=>false) (λb=>b)
def sF:Bool->Bool:=@Bool.rec (λ_=>Bool) true false
def WQ:Bool->Bool->Bool:=@Bool.rec (λ_=>Bool->Bool) sF (λb=>b)
def Ig:Bool->aa->aa->aa:=@Bool.rec (λ_=>aa->aa->aa) (λ_ b=>b) (λa _=>a)
def bF:Bool->AQ:=@Bool.rec (λ_=>AQ) (λk=>k (.bool false)) (λk=>k (.bool true))
def R4:Bool->Bool->AQ:=@Bool.rec (λ_=>Bool->AQ) bF (λt k=>bF (sF t) k)
def aKj:Bool->St->St->St:=@Bool.rec (λ_=>St->St->St) (λ_ b=>b) (λa _=>a)
def a27(b w:Bool)(go skip:St):St:=aKj (WQ b w) go skip
def aSP:List V->St->St:=@List.rec V (λ_=>St->St) (λs=>s) (λ_ _ _ _=>eG)
def fI:Int->(Int->aa)->aa:=@Int.rec (λ_=>(Int->aa)->aa) (λm k=>fN m λm=>k (.ofNat m)) (λm k=>fN m λm=>k (.negSucc m))
def UV(kd:IntKind)(n:Int):Int:=kd.wrap n
def qq(kd:IntKind)(n:Int)(k:V->aa):aa:=fI (UV kd n) λn=>k (.int kd n)
def Sn(m:Nat)(kd:IntKind)(k:V->aa):aa :=
 @Bool.rec (λ_=>Nat->IntKind->AQ) (λm kd k=>qq kd (.ofNat m) k) (λm kd k=>k (.int kd (.ofNat m))) (Nat.ble m (Z9 kd)) m kd k
def bn:Int->IntKind->AQ :=
 @Int.rec (λ_=>IntKind->AQ) (λm kd k=>fN m λm=>Sn m kd k) (λm kd k=>qq kd (.negSucc m) k)
def aUK(a b:Nat):Int:=.ofNat a+.negSucc b
def aUL(a:Nat)(y:Int):Int:=.negSucc a+y
def Vx:Int->Int->Int:=@Int.rec (λ_=>Int->Int) (λa y=>@Int.rec (λ_=>Nat->Int) (λb a=>.ofNat (Nat.add a b)) (λb a=>aUK a b) y a) aUL
def aXj(a b:Nat):Int:=.ofNat a - .negSucc b
def aXk(a:Nat)(y:Int):Int:=.negSucc a-y
def VQ:Int->Int->Int:=@Int.rec (λ_=>Int->Int) (λa y=>@Int.rec (λ_=>Nat->Int) (λb a=>@Bool.rec (λ_=>Int) (.negSucc (Nat.sub (Nat.sub b a) (nat_lit 1))) (.ofNat (Nat.sub a b)) (Nat.ble b a)) (λb a=>aXj a b) y a) aXk
def KU:Int->Int->Bool:=@Int.rec (λ_=>Int->Bool) (λa y=>@Int.rec (λ_=>Nat->Bool) (λb a=>Nat.ble a b) (λ_ _=>false) y a) (λa y=>@Int.rec (λ_=>Nat->Bool) (λ_ _=>true) (λb a=>Nat.ble b a) y a)
def te:Int->Int->Bool:=@Int.rec (λ_=>Int->Bool) (λa y=>@Int.rec (λ_=>Nat->Bool) (λb a=>Nat.beq a b) (λ_ _=>false) y a) (λa y=>@Int.rec (λ_=>Nat->Bool) (λ_ _=>false) (λb a=>Nat.beq a b) y a)
def Wm:BinOp->IntKind->Int->Int->AQ :=
 @BinOp.rec (λ_=>IntKind->Int->Int->AQ)
  (λkd x y k=>bn (Vx x y) kd k)
  (λkd x y k=>bn (VQ x y) kd k)
  (λkd x y k=>qA .mul kd x y k)
  (λkd x y k=>qA .quo kd x y k)
  (λkd x y k=>qA .rem kd x y k)
  (λkd x y k=>qA .and kd x y k)
  (λkd x y k=>qA .or kd x y k)
  (λkd x y k=>qA .xor kd x y k)
  (λkd x y k=>qA .shl kd x y k)
  (λkd x y k=>qA .shr kd x y k)
  (λkd x y k=>qA .andNot kd x y k)
  (λ_ x y k=>bF (te x y) k)
  (λ_ x y k=>bF (sF (te x y)) k)
  (λ_ x y k=>bF (sF (KU y x)) k)
  (λ_ x y k=>bF (KU x y) k)
  (λ_ x y k=>bF (sF (KU x y)) k)
  (λ_ x y k=>bF (KU y x) k)
def WA(l n m j:Nat)(k:V->aa):aa:=C7 (Nat.ble (Nat.add l m) (nat_lit 4294967296)) 14 (fN (Nat.add l m) λl'=>fN (Nat.add n (Nat.mul j (Qi l))) λn'=>k (.str l' n'))
def aKh:BinOp->Nat->Nat->Nat->Nat->AQ :=
 @BinOp.rec (λ_=>Nat->Nat->Nat->Nat->AQ)
  WA
  (λ_ _ _ _ _=>.bad 15) (λ_ _ _ _ _=>.bad 15) (λ_ _ _ _ _=>.bad 15) (λ_ _ _ _ _=>.bad 15) (λ_ _ _ _ _=>.bad 15) (λ_ _ _ _ _=>.bad 15) (λ_ _ _ _ _=>.bad 15) (λ_ _ _ _ _=>.bad 15) (λ_ _ _ _ _=>.bad 15) (λ_ _ _ _ _=>.bad 15)
  (λl n m j k=>bF (kJ (Nat.beq l m) (Nat.beq n j)) k)
  (λl n m j k=>bF (sF (kJ (Nat.beq l m) (Nat.beq n j))) k)
  (λ_ _ _ _ _=>.bad 15) (λ_ _ _ _ _=>.bad 15) (λ_ _ _ _ _=>.bad 15) (λ_ _ _ _ _=>.bad 15)
def mr{α:Type}:List α->(Nat->aa)->aa:=@List.rec α (λ_=>(Nat->aa)->aa) (λk=>k (nat_lit 0)) (λ_ _ ih k=>ih λn=>fN (Nat.succ n) k)
def rP(l m:List V)(k:List V->aa):aa:=@List.rec V (λ_=>List V->(List V->aa)->aa) (λm k=>k m) (λv _ ih m k=>ih m λl'=>k (v::l')) l m k
def OM(fs args caps:List V)(k:List V->aa):aa :=
 @List.rec V (λ_=>List V->List V->(List V->aa)->aa) (λfs args k=>@List.rec V (λ_=>List V->(List V->aa)->aa) (λargs k=>k args) (λf fs _ args k=>rP (f::fs) args k) fs args k)
  (λc cs _ fs args k=>rP args (c::cs) λl=>rP fs l k) caps fs args k
def Vd:O->(Nat->T V->aa)->aa :=
 @O.rec (λ_=>(Nat->T V->aa)->aa) (λ_=>.bad 10) (λn t _ _ _ _ k=>k n t) (λn t k=>k n t) (λ_ _=>.bad 10) (λ_ _=>.bad 10) (λ_ _=>.bad 10) (λ_ _=>.bad 10) (λ_ _ _=>.bad 10)
def yz:O->Bool:=@O.rec (λ_=>Bool) false (λ_ _ _ _ _ _=>true) (λ_ _=>false) (λ_=>false) (λ_=>false) (λ_=>false) (λ_=>false) (λ_ _=>false)
def Ql:O->(List (V×V)->aa)->aa :=
 @O.rec (λ_=>(List (V×V)->aa)->aa) (λ_=>.bad 11) (λ_ _ _ _ _ _ _=>.bad 11) (λ_ _ _=>.bad 11) (λes k=>k es) (λes k=>k es) (λ_ _=>.bad 11) (λ_ _=>.bad 11) (λ_ _ _=>.bad 11)
def aKV(ob:O)(es:List (V×V))(k:O->aa):aa :=
 @O.rec (λ_=>List (V×V)->BB) (λ_ _=>.bad 11) (λ_ _ _ _ _ _ _ _=>.bad 11) (λ_ _ _ _=>.bad 11) (λ_ es k=>k (.map es)) (λ_ es k=>k (.mc es)) (λ_ _ _=>.bad 11) (λ_ _ _=>.bad 11) (λ_ _ _ _=>.bad 11) ob es k
abbrev Lk:=Nat->Jump->Q->T V->List Q->C->C->Q->aa
def oP(ob:O)(k:Lk):aa :=
 @O.rec (λ_=>Lk->aa) (λ_=>.bad 84) (λ_ _ _ _ _ _ _=>.bad 84) (λ_ _ _=>.bad 84) (λ_ _=>.bad 84) (λ_ _=>.bad 84) (λl k=>@Lp.rec (λ_=>Lk->aa) (λst pend fn tm params B3 body CH k=>k st pend fn tm params B3 body CH) l k) (λ_ _=>.bad 84) (λ_ _ _=>.bad 84) ob k
def Qx(h:T O)(o:Q)(off:Nat)(o':Q)(DN:Nat)(k:Bool->aa):aa :=
 @Bool.rec (λ_=>T O->Q->Nat->Q->Nat->(Bool->aa)->aa)
  (λh o _ o' _ k=>GX o h λx=>GX o' h λy=>C7 (kJ (yz x) (yz y)) 20 (k false))
  (λh o off _ DN k=>@Bool.rec (λ_=>T O->Q->(Bool->aa)->aa) (λh o k=>GX o h λx=>C7 (yz x) 20 (k false)) (λ_ _ k=>k true) (Nat.beq off DN) h o k) (Wl o o') h o off o' DN k
def Ol(h:T O)(o:Q)(off:Nat)(k:V->aa):aa :=
 GX o h λob=>Vd ob λn t=>C7 (Nat.ble (Nat.succ off) n) 46 (ML (qn off) t k)
def Wf:Nat->Nat->T V->(List V->aa)->aa :=
 @Nat.rec (λ_=>Nat->T V->(List V->aa)->aa) (λ_ _ k=>k []) (λ_ ih i t k=>ML (qn i) t λv=>ih (Nat.succ i) t λl=>k (v::l))
def Ny(h:T O)(o:Q)(off n:Nat)(k:List V->aa):aa :=
 GX o h λob=>Vd ob λm t=>C7 (Nat.ble (Nat.add off n) m) 47 (Wf n off t k)
def qW:List V->Nat->T V->(T V->aa)->aa :=
 @List.rec V (λ_=>Nat->T V->(T V->aa)->aa) (λ_ t k=>k t) (λv _ ih i t k=>NM (qn i) v t λt'=>ih (Nat.succ i) t' k)
def Wc:List V->Nat->(List V->aa)->aa :=
 @List.rec V (λ_=>Nat->(List V->aa)->aa) (λn k=>@Nat.rec (λ_=>(List V->aa)->aa) (λk=>k []) (λ_ _ _=>.bad 30) n k)
  (λv _ ih n k=>@Nat.rec (λ_=>V->(Nat->(List V->aa)->aa)->(List V->aa)->aa) (λ_ _ k=>k []) (λn _ v ih k=>ih n λl'=>k (v::l')) n v ih k)
def Xr:List V->Nat->Nat->(List V->aa)->aa :=
 @List.rec V (λ_=>Nat->Nat->(List V->aa)->aa) (λoff n k=>@Nat.rec (λ_=>Nat->(List V->aa)->aa) (λn k=>Wc [] n k) (λ_ _ _ _=>.bad 31) off n k)
  (λv l ih off n k=>@Nat.rec (λ_=>List V->(Nat->Nat->(List V->aa)->aa)->Nat->(List V->aa)->aa) (λl _ n k=>Wc l n k) (λoff _ _ ih n k=>ih off n k) off (v::l) ih n k)
def Vk:List V->Nat->AQ :=
 @List.rec V (λ_=>Nat->AQ) (λ_ _=>.bad 1) (λv _ ih n k=>@Nat.rec (λ_=>V->(Nat->AQ)->AQ) (λv _ k=>k v) (λm _ _ ih k=>ih m k) n v ih k)
def VB:Bool->Nat->Nat->List V->AQ :=
 @Bool.rec (λ_=>Nat->Nat->List V->AQ) (λoff _ l k=>Vk l off k) (λoff n l k=>Xr l off n λl'=>k (.agg l'))
def W_:List V->Nat->List V->(List V->aa)->aa :=
 @List.rec V (λ_=>Nat->List V->(List V->aa)->aa)
  (λoff new k=>@Nat.rec (λ_=>List V->(List V->aa)->aa) (λnew k=>@List.rec V (λ_=>(List V->aa)->aa) (λk=>k []) (λ_ _ _ _=>.bad 26) new k) (λ_ _ _ _=>.bad 27) off new k)
  (λx r ih off new k=>@Nat.rec (λ_=>V->List V->(Nat->List V->(List V->aa)->aa)->List V->(List V->aa)->aa)
   (λx r ih new k=>@List.rec V (λ_=>V->List V->(Nat->List V->(List V->aa)->aa)->(List V->aa)->aa) (λx r _ k=>k (x::r)) (λv vs _ _ _ ih k=>ih (nat_lit 0) vs λl'=>k (v::l')) new x r ih k)
   (λoff _ x _ ih new k=>ih off new λl'=>k (x::l')) off x r ih new k)
def SH(c:Nat)(o:Q)(off len sz i:Nat)(k:V->aa):aa:=C7 (Nat.ble (Nat.succ i) len) c (fN (Nat.add off (Nat.mul i sz)) λa=>k (.ptr o a))
def Wr(o:Q)(off cap sz lo hi:Nat)(k:V->aa):aa :=
 C7 (kJ (Nat.ble lo hi) (Nat.ble hi cap)) 41 (fN (Nat.sub hi lo) λl=>fN (Nat.sub cap lo) λc=>Ig (Nat.beq lo cap) (k (.sl o off l c)) (fN (Nat.add off (Nat.mul lo sz)) λa=>k (.sl o a l c)))
def Wq(o:Q)(off len sz lo hi:Nat)(k:V->aa):aa :=
 C7 (kJ (Nat.ble lo hi) (Nat.ble hi len)) 43 (Ig (Nat.ble (Nat.succ lo) len) (fN (Nat.sub hi lo) λl=>fN (Nat.add off (Nat.mul lo sz)) λa=>k (.su o a l sz)) (Ig (Nat.beq lo (nat_lit 0)) (k (.su o off (nat_lit 0) sz)) (k .se)))
def SI(len sz:Nat)(h:T O)(o:Q)(off:Nat)(k:Nat->List V->aa):aa:=@Nat.rec (λ_=>aa) (k (nat_lit 0) []) (λm _=>Ny h o off (Nat.mul (Nat.succ m) sz) λl=>k (Nat.succ m) l) len
def QY:Nat->Nat->(List V->aa)->aa :=
 @Nat.rec (λ_=>Nat->(List V->aa)->aa) (λ_ k=>k []) (λ_ ih n k=>fN (Nat.mod n (nat_lit 256)) λc=>fN (Nat.div n (nat_lit 256)) λn'=>ih n' λcs=>k (.int .u8 (.ofNat c)::cs))
def Wi:List Q->T O->(T O->aa)->aa:=@List.rec Q (λ_=>T O->(T O->aa)->aa) (λh k=>k h) (λq _ ih h k=>E6 q .dead h λh'=>ih h' k)
def XJ(n:Nat)(t:T V)(B4:List Q)(ty:Nat)(ex:Bool)(o:Q)(h:T O)(k:T O->aa):aa:=Wi B4 h λh'=>E6 o (.row n t [] (nat_lit 0) ty ex) h' k
def TB(n:Nat)(t:T V)(B4:List Q)(CJ ty:Nat)(ex:Bool)(o:Q)(off:Nat)(vs:List V)(h:T O)(k:T O->aa):aa :=
 mr vs λm=>C7 (Nat.ble (Nat.add off m) n) 60 (qW vs off t λt'=>Ig (Nat.ble CJ off) (E6 o (.row n t' B4 CJ ty ex) h k) (XJ n t' B4 ty ex o h k))
def aUc:O->Q->Nat->List V->T O->(T O->aa)->aa :=
 @O.rec (λ_=>Q->Nat->List V->T O->(T O->aa)->aa) (λ_ _ _ _ _=>.bad 61) TB
  (λ_ _ _ _ _ _ _=>.bad 61) (λ_ _ _ _ _ _=>.bad 61) (λ_ _ _ _ _ _=>.bad 61) (λ_ _ _ _ _ _=>.bad 61) (λ_ _ _ _ _ _=>.bad 61) (λ_ _ _ _ _ _ _=>.bad 61)
def O6(o:Q)(off:Nat)(vs:List V)(h:T O)(k:T O->aa):aa:=GX o h λob=>aUc ob o off vs h k
def yi(ty sz len m:Nat)(old new:List V)(h:T O)(nx:Q)(k:Kw):aa :=
 C7 (Nat.ble (Nat.add len m) (nat_lit 4294967296)) 112 (qW old (nat_lit 0) .nil λt=>qW new (Nat.mul len sz) t λt'=>fN (Nat.mul (Nat.add len m) sz) λn=>fN (Nat.add len m) λl=>E6 nx (.row n t' [] (nat_lit 0) ty false) h λh'=>IU nx λnx'=>k (.su nx (nat_lit 0) l sz) h' nx')
def Yr(m ty sz:Nat)(new:List V)(h:T O)(nx:Q)(k:Kw):aa:=@Nat.rec (λ_=>aa) (k .jk h nx) (λm _=>yi ty sz (nat_lit 0) (Nat.succ m) [] new h nx k) m
def Vw(o:Q)(off len cap ty sz m:Nat)(new:List V)(h:T O)(nx:Q)(k:Kw):aa :=
 Ig (Nat.ble (Nat.add len m) cap)
  (@Nat.rec (λ_=>aa) (k (.sl o off len cap) h nx) (λm _=>O6 o (Nat.add off (Nat.mul len sz)) new h λh'=>fN (Nat.add len (Nat.succ m)) λl=>k (.sl o off l cap) h' nx) m)
  (SI len sz h o off λ_ old=>yi ty sz len m old new h nx k)
def aKd(n:Nat)(o:Q)(off len ty sz m:Nat)(new:List V)(t:T V)(B4:List Q)(HY:Nat)(h:T O)(nx:Q)(k:Kw):aa :=
 C7 (kJ (Nat.beq (Nat.add off (Nat.mul len sz)) n) (kJ (Nat.beq off (nat_lit 0)) (kJ (Nat.beq ty HY) (Nat.ble (Nat.add len m) (nat_lit 4294967296))))) 64
  (qW new n t λt'=>fN (Nat.add n (Nat.mul m sz)) λn'=>fN (Nat.add len m) λl=>E6 o (.ro n t) h λh'=>E6 nx (.row n' t' (o::B4) n HY false) h' λMK=>IU nx λnx'=>k (.su nx off l sz) MK nx')
def aKe(ob:O)(o:Q)(off len ty sz m:Nat)(new:List V)(h:T O)(nx:Q)(k:Kw):aa :=
 @O.rec (λ_=>aa) (.bad 65) (λn t B4 _ HY _=>Ig (Nat.ble (Nat.add off (Nat.mul (Nat.add len m) sz)) n)
   (O6 o (Nat.add off (Nat.mul len sz)) new h λh'=>fN (Nat.add len m) λl=>k (.su o off l sz) h' nx) (aKd n o off len ty sz m new t B4 HY h nx k))
  (λ_ _=>.bad 65) (λ_=>.bad 65) (λ_=>.bad 65) (λ_=>.bad 65) (λ_=>.bad 65) (λ_ _=>.bad 65) ob
def aRD(m:Nat)(o:Q)(off len ty sz:Nat)(new:List V)(h:T O)(nx:Q)(k:Kw):aa :=
 @Nat.rec (λ_=>aa) (k (.su o off len sz) h nx) (λm _=>GX o h λob=>aKe ob o off len ty sz (Nat.succ m) new h nx k) m
def VP(ok:Bool)(z:V)(k:V->aa):aa:=@Bool.rec (λ_=>V->AQ) (λ_ _=>.bad 120) (λz k=>k (.aj [z,.bool false])) ok z k
def UY(ok:Bool)(v:V)(k:V->aa):aa:=@Bool.rec (λ_=>V->AQ) (λv k=>k v) (λv k=>k (.aj [v,.bool true])) ok v k
def Wd(ok:Bool)(tt:Nat)(z:V)(t:Nat)(u:V)(k:V->aa):aa:=Ig (Nat.beq t tt) (UY ok u k) (VP ok z k)
def vI:V->(IntKind->Int->aa)->aa :=
 @V.rec (λ_=>(IntKind->Int->aa)->aa) (λ_=>PUnit)
  (λ_=>.bad 3)
  (λ_ _=>.bad 3)
  (λkd n k=>k kd n)
  (λ_ _ _=>.bad 3)
  (λ_=>.bad 3)
  (λ_ _ _=>.bad 3)
  (λ_=>.bad 3)
  (λ_ _ _ _ _=>.bad 3)
  (λ_ _ _ _ _=>.bad 3)
  (λ_=>.bad 3)
  (λ_=>.bad 3)
  (λ_ _=>.bad 3)
  (λ_=>.bad 3)
  (λ_ _ _ _ _ _=>.bad 3)
  (λ_ _=>.bad 3)
  (λ_=>.bad 3)
  (λ_ _ _ _=>.bad 3)
  (λ_ _ _=>.bad 3)
  (λ_ _ _=>.bad 3)
  (λ_ _=>.bad 3)
  ⟨⟩ (λ_ _ _ _=>⟨⟩)
def vB:V->(Bool->aa)->aa :=
 @V.rec (λ_=>(Bool->aa)->aa) (λ_=>PUnit)
  (λ_=>.bad 4)
  (λb k=>k b)
  (λ_ _ _=>.bad 4)
  (λ_ _ _=>.bad 4)
  (λ_=>.bad 4)
  (λ_ _ _=>.bad 4)
  (λ_=>.bad 4)
  (λ_ _ _ _ _=>.bad 4)
  (λ_ _ _ _ _=>.bad 4)
  (λ_=>.bad 4)
  (λ_=>.bad 4)
  (λ_ _=>.bad 4)
  (λ_=>.bad 4)
  (λ_ _ _ _ _ _=>.bad 4)
  (λ_ _=>.bad 4)
  (λ_=>.bad 4)
  (λ_ _ _ _=>.bad 4)
  (λ_ _ _=>.bad 4)
  (λ_ _ _=>.bad 4)
  (λ_ _=>.bad 4)
  ⟨⟩ (λ_ _ _ _=>⟨⟩)
def vN:V->(Nat->aa)->aa :=
 @V.rec (λ_=>(Nat->aa)->aa) (λ_=>PUnit)
  (λ_=>.bad 6)
  (λ_ _=>.bad 6)
  (λ_ n k=>a6a n k)
  (λ_ _ _=>.bad 6)
  (λ_=>.bad 6)
  (λ_ _ _=>.bad 6)
  (λ_=>.bad 6)
  (λ_ _ _ _ _=>.bad 6)
  (λ_ _ _ _ _=>.bad 6)
  (λ_=>.bad 6)
  (λ_=>.bad 6)
  (λ_ _=>.bad 6)
  (λ_=>.bad 6)
  (λ_ _ _ _ _ _=>.bad 6)
  (λ_ _=>.bad 6)
  (λ_=>.bad 6)
  (λ_ _ _ _=>.bad 6)
  (λ_ _ _=>.bad 6)
  (λ_ _ _=>.bad 6)
  (λ_ _=>.bad 6)
  ⟨⟩ (λ_ _ _ _=>⟨⟩)
def vP:V->(Q->Nat->aa)->aa :=
 @V.rec (λ_=>(Q->Nat->aa)->aa) (λ_=>PUnit)
  (λ_=>.bad 7)
  (λ_ _=>.bad 7)
  (λ_ _ _=>.bad 7)
  (λ_ _ _=>.bad 7)
  (λ_=>.bad 7)
  (λo off k=>k o off)
  (λ_=>.bad 7)
  (λ_ _ _ _ _=>.bad 7)
  (λ_ _ _ _ _=>.bad 7)
  (λ_=>.bad 7)
  (λ_=>.bad 7)
  (λ_ _=>.bad 7)
  (λ_=>.bad 7)
  (λ_ _ _ _ _ _=>.bad 7)
  (λ_ _=>.bad 7)
  (λ_=>.bad 7)
  (λ_ _ _ _=>.bad 7)
  (λ_ _ _=>.bad 7)
  (λ_ _ _=>.bad 7)
  (λ_ _=>.bad 7)
  ⟨⟩ (λ_ _ _ _=>⟨⟩)
def RM:V->(Q->Nat->aa)->(RK->aa)->aa :=
 @V.rec (λ_=>(Q->Nat->aa)->(RK->aa)->aa) (λ_=>PUnit)
  (λ_ _=>.bad 7)
  (λ_ _ _=>.bad 7)
  (λ_ _ _ _=>.bad 7)
  (λ_ _ _ _=>.bad 7)
  (λ_ _=>.bad 7)
  (λo off k _=>k o off)
  (λ_ _=>.bad 7)
  (λ_ _ _ _ _ _=>.bad 7)
  (λ_ _ _ _ _ _=>.bad 7)
  (λ_ _=>.bad 7)
  (λ_ _=>.bad 7)
  (λ_ _ _=>.bad 7)
  (λ_ _=>.bad 7)
  (λ_ _ _ _ _ _ _=>.bad 7)
  (λ_ _ _=>.bad 7)
  (λ_ _=>.bad 7)
  (λ_ _ _ _ _=>.bad 7)
  (λ_ _ _ _=>.bad 7)
  (λ_ _ _ _=>.bad 7)
  (λx _ kr=>kr x)
  ⟨⟩ (λ_ _ _ _=>⟨⟩)
def vS:V->(Nat->Nat->aa)->aa :=
 @V.rec (λ_=>(Nat->Nat->aa)->aa) (λ_=>PUnit)
  (λ_=>.bad 8)
  (λ_ _=>.bad 8)
  (λ_ _ _=>.bad 8)
  (λl n k=>k l n)
  (λ_=>.bad 8)
  (λ_ _ _=>.bad 8)
  (λ_=>.bad 8)
  (λ_ _ _ _ _=>.bad 8)
  (λ_ _ _ _ _=>.bad 8)
  (λ_=>.bad 8)
  (λ_=>.bad 8)
  (λ_ _=>.bad 8)
  (λ_=>.bad 8)
  (λ_ _ _ _ _ _=>.bad 8)
  (λ_ _=>.bad 8)
  (λ_=>.bad 8)
  (λ_ _ _ _=>.bad 8)
  (λ_ _ _=>.bad 8)
  (λ_ _ _=>.bad 8)
  (λ_ _=>.bad 8)
  ⟨⟩ (λ_ _ _ _=>⟨⟩)
def vA:V->(List V->aa)->aa :=
 @V.rec (λ_=>(List V->aa)->aa) (λ_=>PUnit)
  (λ_=>.bad 9)
  (λ_ _=>.bad 9)
  (λ_ _ _=>.bad 9)
  (λ_ _ _=>.bad 9)
  (λ_=>.bad 9)
  (λ_ _ _=>.bad 9)
  (λ_=>.bad 9)
  (λ_ _ _ _ _=>.bad 9)
  (λ_ _ _ _ _=>.bad 9)
  (λ_=>.bad 9)
  (λ_=>.bad 9)
  (λ_ _=>.bad 9)
  (λ_=>.bad 9)
  (λ_ _ _ _ _ _=>.bad 9)
  (λ_ _=>.bad 9)
  (λ_=>.bad 9)
  (λ_ _ _ _=>.bad 9)
  (λvs _ k=>k vs)
  (λ_ _ _=>.bad 9)
  (λ_ _=>.bad 9)
  ⟨⟩ (λ_ _ _ _=>⟨⟩)
def a2I:V->(List V->aa)->aa :=
 @V.rec (λ_=>(List V->aa)->aa) (λ_=>PUnit)
  (λ_=>.bad 55)
  (λ_ _=>.bad 55)
  (λ_ _ _=>.bad 55)
  (λ_ _ _=>.bad 55)
  (λ_=>.bad 55)
  (λ_ _ _=>.bad 55)
  (λ_=>.bad 55)
  (λ_ _ _ _ _=>.bad 55)
  (λ_ _ _ _ _=>.bad 55)
  (λ_=>.bad 55)
  (λ_=>.bad 55)
  (λ_ _=>.bad 55)
  (λ_=>.bad 55)
  (λ_ _ _ _ _ _=>.bad 55)
  (λ_ _=>.bad 55)
  (λ_=>.bad 55)
  (λ_ _ _ _=>.bad 55)
  (λ_ _ _=>.bad 55)
  (λvs _ k=>k vs)
  (λ_ _=>.bad 55)
  ⟨⟩ (λ_ _ _ _=>⟨⟩)
def vM:V->Nat->(Q->aa)->aa->aa :=
 @V.rec (λ_=>Nat->(Q->aa)->aa->aa) (λ_=>PUnit)
  (λc _ _=>.bad c)
  (λ_ c _ _=>.bad c)
  (λ_ _ c _ _=>.bad c)
  (λ_ _ c _ _=>.bad c)
  (λc _ _=>.bad c)
  (λ_ _ c _ _=>.bad c)
  (λc _ _=>.bad c)
  (λ_ _ _ _ c _ _=>.bad c)
  (λ_ _ _ _ c _ _=>.bad c)
  (λc _ _=>.bad c)
  (λ_ _ kn=>kn)
  (λo _ k _=>k o)
  (λc _ _=>.bad c)
  (λ_ _ _ _ _ c _ _=>.bad c)
  (λ_ c _ _=>.bad c)
  (λc _ _=>.bad c)
  (λ_ _ _ c _ _=>.bad c)
  (λ_ _ c _ _=>.bad c)
  (λ_ _ c _ _=>.bad c)
  (λ_ c _ _=>.bad c)
  ⟨⟩ (λ_ _ _ _=>⟨⟩)
def O7:V->Nat->(Nat->Nat->aa)->aa :=
 @V.rec (λ_=>Nat->(Nat->Nat->aa)->aa) (λ_=>PUnit)
  (λc _=>.bad c)
  (λ_ c _=>.bad c)
  (λ_ _ c _=>.bad c)
  (λl n _ k=>k l n)
  (λc _=>.bad c)
  (λ_ _ c _=>.bad c)
  (λc _=>.bad c)
  (λ_ _ _ _ c _=>.bad c)
  (λ_ _ _ _ c _=>.bad c)
  (λc _=>.bad c)
  (λc _=>.bad c)
  (λ_ c _=>.bad c)
  (λc _=>.bad c)
  (λ_ _ _ _ _ c _=>.bad c)
  (λ_ c _=>.bad c)
  (λc _=>.bad c)
  (λ_ _ _ c _=>.bad c)
  (λ_ _ c _=>.bad c)
  (λ_ _ c _=>.bad c)
  (λ_ c _=>.bad c)
  ⟨⟩ (λ_ _ _ _=>⟨⟩)
def O9:V->Nat->(IntKind->Int->aa)->aa :=
 @V.rec (λ_=>Nat->(IntKind->Int->aa)->aa) (λ_=>PUnit)
  (λc _=>.bad c)
  (λ_ c _=>.bad c)
  (λkd n _ k=>k kd n)
  (λ_ _ c _=>.bad c)
  (λc _=>.bad c)
  (λ_ _ c _=>.bad c)
  (λc _=>.bad c)
  (λ_ _ _ _ c _=>.bad c)
  (λ_ _ _ _ c _=>.bad c)
  (λc _=>.bad c)
  (λc _=>.bad c)
  (λ_ c _=>.bad c)
  (λc _=>.bad c)
  (λ_ _ _ _ _ c _=>.bad c)
  (λ_ c _=>.bad c)
  (λc _=>.bad c)
  (λ_ _ _ c _=>.bad c)
  (λ_ _ c _=>.bad c)
  (λ_ _ c _=>.bad c)
  (λ_ c _=>.bad c)
  ⟨⟩ (λ_ _ _ _=>⟨⟩)
def O8:V->Nat->(Q->Nat->aa)->aa :=
 @V.rec (λ_=>Nat->(Q->Nat->aa)->aa) (λ_=>PUnit)
  (λc _=>.bad c)
  (λ_ c _=>.bad c)
  (λ_ _ c _=>.bad c)
  (λ_ _ c _=>.bad c)
  (λc _=>.bad c)
  (λo off _ k=>k o off)
  (λc _=>.bad c)
  (λ_ _ _ _ c _=>.bad c)
  (λ_ _ _ _ c _=>.bad c)
  (λc _=>.bad c)
  (λc _=>.bad c)
  (λ_ c _=>.bad c)
  (λc _=>.bad c)
  (λ_ _ _ _ _ c _=>.bad c)
  (λ_ c _=>.bad c)
  (λc _=>.bad c)
  (λ_ _ _ c _=>.bad c)
  (λ_ _ c _=>.bad c)
  (λ_ _ c _=>.bad c)
  (λ_ c _=>.bad c)
  ⟨⟩ (λ_ _ _ _=>⟨⟩)
def VL:V->(Nat->aa)->aa :=
 @V.rec (λ_=>(Nat->aa)->aa) (λ_=>PUnit)
  (λ_=>.bad 39)
  (λ_ _=>.bad 39)
  (λ_ _ _=>.bad 39)
  (λ_ _ _=>.bad 39)
  (λ_=>.bad 39)
  (λ_ _ _=>.bad 39)
  (λk=>k (nat_lit 0))
  (λ_ _ len _ k=>k len)
  (λ_ _ len _ k=>k len)
  (λk=>k (nat_lit 0))
  (λ_=>.bad 39)
  (λ_ _=>.bad 39)
  (λ_=>.bad 39)
  (λ_ _ _ _ _ _=>.bad 39)
  (λ_ _=>.bad 39)
  (λ_=>.bad 39)
  (λ_ _ _ _=>.bad 39)
  (λ_ _ _=>.bad 39)
  (λ_ _ _=>.bad 39)
  (λx k=>Vf x k)
  ⟨⟩ (λ_ _ _ _=>⟨⟩)
def UL:V->Nat->Nat->AQ :=
 @V.rec (λ_=>Nat->Nat->AQ) (λ_=>PUnit)
  (λ_ _ _=>.bad 38)
  (λ_ _ _ _=>.bad 38)
  (λ_ _ _ _ _=>.bad 38)
  (λ_ _ _ _ _=>.bad 38)
  (λ_ _ _=>.bad 38)
  (λ_ _ _ _ _=>.bad 38)
  (λ_ _ _=>.bad 38)
  (λo off len _ sz i k=>SH (nat_lit 36) o off len sz i k)
  (λo off len _ sz i k=>SH (nat_lit 37) o off len sz i k)
  (λ_ _ _=>.bad 38)
  (λ_ _ _=>.bad 38)
  (λ_ _ _ _=>.bad 38)
  (λ_ _ _=>.bad 38)
  (λ_ _ _ _ _ _ _ _=>.bad 38)
  (λ_ _ _ _=>.bad 38)
  (λ_ _ _=>.bad 38)
  (λ_ _ _ _ _ _=>.bad 38)
  (λ_ _ _ _ _=>.bad 38)
  (λ_ _ _ _ _=>.bad 38)
  (λx sz i k=>xz sz x i k)
  ⟨⟩ (λ_ _ _ _=>⟨⟩)
def Ob:V->(List V->aa)->aa :=
 @V.rec (λ_=>(List V->aa)->aa) (λ_=>PUnit)
  (λ_=>.bad 111)
  (λb k=>k [.bool b])
  (λkd n k=>k [.int kd n])
  (λl n k=>k [.str l n])
  (λk=>k [.nw])
  (λo off k=>k [.ptr o off])
  (λk=>k [.jk])
  (λo off len cap k=>k [.sl o off len cap])
  (λo off len z k=>k [.su o off len z])
  (λk=>k [.se])
  (λk=>k [.mo])
  (λo k=>k [.map o])
  (λk=>k [.nf])
  (λf fs cs _ _ k=>k [.fn f fs cs])
  (λl k=>k [.bN l])
  (λk=>k [.lz])
  (λt u _ k=>k [.kh t u])
  (λvs _ k=>k vs)
  (λ_ _ _=>.bad 110)
  (λx k=>k [.rr x])
  ⟨⟩ (λ_ _ _ _=>⟨⟩)
def ZQ:V->AQ :=
 @V.rec (λ_=>AQ) (λ_=>PUnit)
  (λ_=>.bad 48)
  (λ_ _=>.bad 48)
  (λ_ _ _=>.bad 48)
  (λ_ _ _=>.bad 48)
  (λ_=>.bad 48)
  (λo off k=>k (.ptr o off))
  (λ_=>.bad 48)
  (λ_ _ _ _ _=>.bad 48)
  (λ_ _ _ _ _=>.bad 48)
  (λ_=>.bad 48)
  (λ_=>.bad 48)
  (λ_ _=>.bad 48)
  (λ_=>.bad 48)
  (λf fs cs _ _ k=>k (.fn f fs cs))
  (λl k=>k (.bN l))
  (λ_=>.bad 48)
  (λt u _ k=>k (.kh t u))
  (λ_ _ _=>.bad 48)
  (λ_ _ _=>.bad 48)
  (λx k=>SV x k)
  ⟨⟩ (λ_ _ _ _=>⟨⟩)
def UI:V->BinOp->IntKind->Int->AQ :=
 @V.rec (λ_=>BinOp->IntKind->Int->AQ) (λ_=>PUnit)
  (λ_ _ _ _=>.bad 17)
  (λ_ _ _ _ _=>.bad 17)
  (λkd n op ka x k=>C7 (Nat.beq (ef ka) (ef kd)) 16 (Wm op ka x n k))
  (λ_ _ _ _ _ _=>.bad 17)
  (λ_ _ _ _=>.bad 17)
  (λ_ _ _ _ _ _=>.bad 17)
  (λ_ _ _ _=>.bad 17)
  (λ_ _ _ _ _ _ _ _=>.bad 17)
  (λ_ _ _ _ _ _ _ _=>.bad 17)
  (λ_ _ _ _=>.bad 17)
  (λ_ _ _ _=>.bad 17)
  (λ_ _ _ _ _=>.bad 17)
  (λ_ _ _ _=>.bad 17)
  (λ_ _ _ _ _ _ _ _ _=>.bad 17)
  (λ_ _ _ _ _=>.bad 17)
  (λ_ _ _ _=>.bad 17)
  (λ_ _ _ _ _ _ _=>.bad 17)
  (λ_ _ _ _ _ _=>.bad 17)
  (λ_ _ _ _ _ _=>.bad 17)
  (λ_ _ _ _ _=>.bad 17)
  ⟨⟩ (λ_ _ _ _=>⟨⟩)
def UJ:V->BinOp->Nat->Nat->AQ :=
 @V.rec (λ_=>BinOp->Nat->Nat->AQ) (λ_=>PUnit)
  (λ_ _ _ _=>.bad 18)
  (λ_ _ _ _ _=>.bad 18)
  (λ_ _ _ _ _ _=>.bad 18)
  (λl n op la na k=>aKh op la na l n k)
  (λ_ _ _ _=>.bad 18)
  (λ_ _ _ _ _ _=>.bad 18)
  (λ_ _ _ _=>.bad 18)
  (λ_ _ _ _ _ _ _ _=>.bad 18)
  (λ_ _ _ _ _ _ _ _=>.bad 18)
  (λ_ _ _ _=>.bad 18)
  (λ_ _ _ _=>.bad 18)
  (λ_ _ _ _ _=>.bad 18)
  (λ_ _ _ _=>.bad 18)
  (λ_ _ _ _ _ _ _ _ _=>.bad 18)
  (λ_ _ _ _ _=>.bad 18)
  (λ_ _ _ _=>.bad 18)
  (λ_ _ _ _ _ _ _=>.bad 18)
  (λ_ _ _ _ _ _=>.bad 18)
  (λ_ _ _ _ _ _=>.bad 18)
  (λ_ _ _ _ _=>.bad 18)
  ⟨⟩ (λ_ _ _ _=>⟨⟩)
def ZT:V->BinOp->V->AQ :=
 @V.rec (λ_=>BinOp->V->AQ) (λ_=>PUnit)
  (λ_ _ _=>.bad 19)
  (λ_ _ _ _=>.bad 19)
  (λkd n op y k=>UI y op kd n k)
  (λl n op y k=>UJ y op l n k)
  (λ_ _ _=>.bad 19)
  (λ_ _ _ _ _=>.bad 19)
  (λ_ _ _=>.bad 19)
  (λ_ _ _ _ _ _ _=>.bad 19)
  (λ_ _ _ _ _ _ _=>.bad 19)
  (λ_ _ _=>.bad 19)
  (λ_ _ _=>.bad 19)
  (λ_ _ _ _=>.bad 19)
  (λ_ _ _=>.bad 19)
  (λ_ _ _ _ _ _ _ _=>.bad 19)
  (λ_ _ _ _=>.bad 19)
  (λ_ _ _=>.bad 19)
  (λ_ _ _ _ _ _=>.bad 19)
  (λ_ _ _ _ _=>.bad 19)
  (λ_ _ _ _ _=>.bad 19)
  (λ_ _ _ _=>.bad 19)
  ⟨⟩ (λ_ _ _ _=>⟨⟩)
def Oa:V->(Q->List V->List V->aa)->(Q->aa)->aa :=
 @V.rec (λ_=>(Q->List V->List V->aa)->(Q->aa)->aa) (λ_=>PUnit)
  (λ_ _=>.bad 85)
  (λ_ _ _=>.bad 85)
  (λ_ _ _ _=>.bad 85)
  (λ_ _ _ _=>.bad 85)
  (λ_ _=>.bad 85)
  (λ_ _ _ _=>.bad 85)
  (λ_ _=>.bad 85)
  (λ_ _ _ _ _ _=>.bad 85)
  (λ_ _ _ _ _ _=>.bad 85)
  (λ_ _=>.bad 85)
  (λ_ _=>.bad 85)
  (λ_ _ _=>.bad 85)
  (λ_ _=>.bad 85)
  (λf fs cs _ _ k _=>k f fs cs)
  (λl _ ky=>ky l)
  (λ_ _=>.bad 85)
  (λ_ _ _ _ _=>.bad 85)
  (λ_ _ _ _=>.bad 85)
  (λ_ _ _ _=>.bad 85)
  (λ_ _ _=>.bad 85)
  ⟨⟩ (λ_ _ _ _=>⟨⟩)
def yN:V->Bool->St->St->St :=
 @V.rec (λ_=>Bool->St->St->St) (λ_=>PUnit)
  (λ_ _ _=>eG)
  (λb want go skip=>a27 b want go skip)
  (λ_ _ _ _ _=>eG)
  (λ_ _ _ _ _=>eG)
  (λ_ _ _=>eG)
  (λ_ _ _ _ _=>eG)
  (λ_ _ _=>eG)
  (λ_ _ _ _ _ _ _=>eG)
  (λ_ _ _ _ _ _ _=>eG)
  (λ_ _ _=>eG)
  (λ_ _ _=>eG)
  (λ_ _ _ _=>eG)
  (λ_ _ _=>eG)
  (λ_ _ _ _ _ _ _ _=>eG)
  (λ_ _ _ _=>eG)
  (λ_ _ _=>eG)
  (λ_ _ _ _ _ _=>eG)
  (λ_ _ _ _ _=>eG)
  (λvs _ _ _ skip=>aSP vs skip)
  (λ_ _ _ _=>eG)
  ⟨⟩ (λ_ _ _ _=>⟨⟩)
def WW:V->St->St->St :=
 @V.rec (λ_=>St->St->St) (λ_=>PUnit)
  (λ_ _=>eE)
  (λb x y=>aKj b x y)
  (λ_ _ _ _=>eE)
  (λ_ _ _ _=>eE)
  (λ_ _=>eE)
  (λ_ _ _ _=>eE)
  (λ_ _=>eE)
  (λ_ _ _ _ _ _=>eE)
  (λ_ _ _ _ _ _=>eE)
  (λ_ _=>eE)
  (λ_ _=>eE)
  (λ_ _ _=>eE)
  (λ_ _=>eE)
  (λ_ _ _ _ _ _ _=>eE)
  (λ_ _ _=>eE)
  (λ_ _=>eE)
  (λ_ _ _ _ _=>eE)
  (λ_ _ _ _=>eE)
  (λ_ _ _ _=>eE)
  (λ_ _ _=>eE)
  ⟨⟩ (λ_ _ _ _=>⟨⟩)
def Sp:V->(Bool->aa)->aa :=
 @V.rec (λ_=>(Bool->aa)->aa) (λ_=>PUnit)
  (λ_=>.bad 21)
  (λ_ _=>.bad 21)
  (λ_ _ _=>.bad 21)
  (λ_ _ _=>.bad 21)
  (λ_=>.bad 21)
  (λ_ _ _=>.bad 21)
  (λk=>k true)
  (λ_ _ _ _ k=>k false)
  (λ_ _ _ _ k=>k false)
  (λk=>k false)
  (λ_=>.bad 21)
  (λ_ _=>.bad 21)
  (λ_=>.bad 21)
  (λ_ _ _ _ _ _=>.bad 21)
  (λ_ _=>.bad 21)
  (λ_=>.bad 21)
  (λ_ _ _ _=>.bad 21)
  (λ_ _ _=>.bad 21)
  (λ_ _ _=>.bad 21)
  (λx k=>Zl x k)
  ⟨⟩ (λ_ _ _ _=>⟨⟩)
def Sq:V->(Bool->aa)->aa :=
 @V.rec (λ_=>(Bool->aa)->aa) (λ_=>PUnit)
  (λ_=>.bad 21)
  (λ_ _=>.bad 21)
  (λ_ _ _=>.bad 21)
  (λ_ _ _=>.bad 21)
  (λ_=>.bad 21)
  (λ_ _ _=>.bad 21)
  (λ_=>.bad 21)
  (λ_ _ _ _ _=>.bad 21)
  (λ_ _ _ _ _=>.bad 21)
  (λ_=>.bad 21)
  (λk=>k true)
  (λ_ k=>k false)
  (λ_=>.bad 21)
  (λ_ _ _ _ _ _=>.bad 21)
  (λ_ _=>.bad 21)
  (λ_=>.bad 21)
  (λ_ _ _ _=>.bad 21)
  (λ_ _ _=>.bad 21)
  (λ_ _ _=>.bad 21)
  (λ_ _=>.bad 21)
  ⟨⟩ (λ_ _ _ _=>⟨⟩)
def Ss:V->(Bool->aa)->aa :=
 @V.rec (λ_=>(Bool->aa)->aa) (λ_=>PUnit)
  (λ_=>.bad 21)
  (λ_ _=>.bad 21)
  (λ_ _ _=>.bad 21)
  (λ_ _ _=>.bad 21)
  (λ_=>.bad 21)
  (λ_ _ _=>.bad 21)
  (λ_=>.bad 21)
  (λ_ _ _ _ _=>.bad 21)
  (λ_ _ _ _ _=>.bad 21)
  (λ_=>.bad 21)
  (λ_=>.bad 21)
  (λ_ _=>.bad 21)
  (λk=>k true)
  (λ_ _ _ _ _ k=>k false)
  (λ_ k=>k false)
  (λ_=>.bad 21)
  (λ_ _ _ _=>.bad 21)
  (λ_ _ _=>.bad 21)
  (λ_ _ _=>.bad 21)
  (λ_ _=>.bad 21)
  ⟨⟩ (λ_ _ _ _=>⟨⟩)
def Sr:V->(Bool->aa)->aa :=
 @V.rec (λ_=>(Bool->aa)->aa) (λ_=>PUnit)
  (λ_=>.bad 21)
  (λ_ _=>.bad 21)
  (λ_ _ _=>.bad 21)
  (λ_ _ _=>.bad 21)
  (λ_=>.bad 21)
  (λ_ _ _=>.bad 21)
  (λ_=>.bad 21)
  (λ_ _ _ _ _=>.bad 21)
  (λ_ _ _ _ _=>.bad 21)
  (λ_=>.bad 21)
  (λ_=>.bad 21)
  (λ_ _=>.bad 21)
  (λ_=>.bad 21)
  (λ_ _ _ _ _ _=>.bad 21)
  (λ_ _=>.bad 21)
  (λk=>k true)
  (λ_ _ _ k=>k false)
  (λ_ _ _=>.bad 21)
  (λ_ _ _=>.bad 21)
  (λ_ _=>.bad 21)
  ⟨⟩ (λ_ _ _ _=>⟨⟩)
def UO:V->(Bool->aa)->aa :=
 @V.rec (λ_=>(Bool->aa)->aa) (λ_=>PUnit)
  (λ_=>.bad 23)
  (λ_ _=>.bad 23)
  (λ_ _ _=>.bad 23)
  (λ_ _ _=>.bad 23)
  (λk=>k true)
  (λ_ _ k=>k false)
  (λ_=>.bad 23)
  (λ_ _ _ _ _=>.bad 23)
  (λ_ _ _ _ _=>.bad 23)
  (λ_=>.bad 23)
  (λ_=>.bad 23)
  (λ_ _=>.bad 23)
  (λ_=>.bad 23)
  (λ_ _ _ _ _ _=>.bad 23)
  (λ_ _=>.bad 23)
  (λ_=>.bad 23)
  (λ_ _ _ _=>.bad 23)
  (λ_ _ _=>.bad 23)
  (λ_ _ _=>.bad 23)
  (λ_ _=>.bad 23)
  ⟨⟩ (λ_ _ _ _=>⟨⟩)
def UP:V->T O->Q->Nat->(Bool->aa)->aa :=
 @V.rec (λ_=>T O->Q->Nat->(Bool->aa)->aa) (λ_=>PUnit)
  (λ_ _ _ _=>.bad 24)
  (λ_ _ _ _ _=>.bad 24)
  (λ_ _ _ _ _ _=>.bad 24)
  (λ_ _ _ _ _ _=>.bad 24)
  (λ_ _ _ k=>k false)
  (λo off h p a k=>Qx h p a o off k)
  (λ_ _ _ _=>.bad 24)
  (λ_ _ _ _ _ _ _ _=>.bad 24)
  (λ_ _ _ _ _ _ _ _=>.bad 24)
  (λ_ _ _ _=>.bad 24)
  (λ_ _ _ _=>.bad 24)
  (λ_ _ _ _ _=>.bad 24)
  (λ_ _ _ _=>.bad 24)
  (λ_ _ _ _ _ _ _ _ _=>.bad 24)
  (λ_ _ _ _ _=>.bad 24)
  (λ_ _ _ _=>.bad 24)
  (λ_ _ _ _ _ _ _=>.bad 24)
  (λ_ _ _ _ _ _=>.bad 24)
  (λ_ _ _ _ _ _=>.bad 24)
  (λ_ _ _ _ _=>.bad 24)
  ⟨⟩ (λ_ _ _ _=>⟨⟩)
def z9:V->T O->V->(Bool->aa)->aa :=
 @V.rec (λ_=>T O->V->(Bool->aa)->aa) (λ_=>PUnit)
  (λ_ _ _=>.bad 25)
  (λ_ _ _ _=>.bad 25)
  (λ_ _ _ _ _=>.bad 25)
  (λ_ _ _ _ _=>.bad 25)
  (λ_ y k=>UO y k)
  (λo off h y k=>UP y h o off k)
  (λ_ _ _=>.bad 25)
  (λ_ _ _ _ _ _ _=>.bad 25)
  (λ_ _ _ _ _ _ _=>.bad 25)
  (λ_ _ _=>.bad 25)
  (λ_ _ _=>.bad 25)
  (λ_ _ _ _=>.bad 25)
  (λ_ _ _=>.bad 25)
  (λ_ _ _ _ _ _ _ _=>.bad 25)
  (λ_ _ _ _=>.bad 25)
  (λ_ _ _=>.bad 25)
  (λ_ _ _ _ _ _=>.bad 25)
  (λ_ _ _ _ _=>.bad 25)
  (λ_ _ _ _ _=>.bad 25)
  (λ_ _ _ _=>.bad 25)
  ⟨⟩ (λ_ _ _ _=>⟨⟩)
def ZS:V->Nat->Nat->Nat->AQ :=
 @V.rec (λ_=>Nat->Nat->Nat->AQ) (λ_=>PUnit)
  (λ_ _ _ _=>.bad 45)
  (λ_ _ _ _ _=>.bad 45)
  (λ_ _ _ _ _ _=>.bad 45)
  (λ_ _ _ _ _ _=>.bad 45)
  (λ_ _ _ _=>.bad 45)
  (λ_ _ _ _ _ _=>.bad 45)
  (λ_ lo hi k=>C7 (kJ (Nat.beq lo (nat_lit 0)) (Nat.beq hi (nat_lit 0))) 40 (k .jk))
  (λo off _ cap sz lo hi k=>Wr o off cap sz lo hi k)
  (λo off len z sz lo hi k=>C7 (Nat.beq sz z) 43 (Wq o off len sz lo hi k))
  (λ_ lo hi k=>C7 (kJ (Nat.beq lo (nat_lit 0)) (Nat.beq hi (nat_lit 0))) 45 (k .se))
  (λ_ _ _ _=>.bad 45)
  (λ_ _ _ _ _=>.bad 45)
  (λ_ _ _ _=>.bad 45)
  (λ_ _ _ _ _ _ _ _ _=>.bad 45)
  (λ_ _ _ _ _=>.bad 45)
  (λ_ _ _ _=>.bad 45)
  (λ_ _ _ _ _ _ _=>.bad 45)
  (λ_ _ _ _ _ _=>.bad 45)
  (λ_ _ _ _ _ _=>.bad 45)
  (λx _ lo hi k=>OE x lo hi none k)
  ⟨⟩ (λ_ _ _ _=>⟨⟩)
def z5:V->Nat->T O->(Nat->List V->aa)->aa :=
 @V.rec (λ_=>Nat->T O->(Nat->List V->aa)->aa) (λ_=>PUnit)
  (λ_ _ _=>.bad 62)
  (λ_ _ _ _=>.bad 62)
  (λ_ _ _ _ _=>.bad 62)
  (λl n sz _ k=>C7 (Nat.beq sz (nat_lit 1)) 62 (QY l n λcs=>k l cs))
  (λ_ _ _=>.bad 62)
  (λ_ _ _ _ _=>.bad 62)
  (λ_ _ k=>k (nat_lit 0) [])
  (λo off len _ sz h k=>SI len sz h o off k)
  (λo off len _ sz h k=>SI len sz h o off k)
  (λ_ _ k=>k (nat_lit 0) [])
  (λ_ _ _=>.bad 62)
  (λ_ _ _ _=>.bad 62)
  (λ_ _ _=>.bad 62)
  (λ_ _ _ _ _ _ _ _=>.bad 62)
  (λ_ _ _ _=>.bad 62)
  (λ_ _ _=>.bad 62)
  (λ_ _ _ _ _ _=>.bad 62)
  (λ_ _ _ _ _=>.bad 62)
  (λ_ _ _ _ _=>.bad 62)
  (λx sz h k=>sm sz x h k)
  ⟨⟩ (λ_ _ _ _=>⟨⟩)
def XN:V->Nat->Nat->Nat->List V->T O->Q->Kw->aa :=
 @V.rec (λ_=>Nat->Nat->Nat->List V->T O->Q->Kw->aa) (λ_=>PUnit)
  (λ_ _ _ _ _ _ _=>.bad 66)
  (λ_ _ _ _ _ _ _ _=>.bad 66)
  (λ_ _ _ _ _ _ _ _ _=>.bad 66)
  (λ_ _ _ _ _ _ _ _ _=>.bad 66)
  (λ_ _ _ _ _ _ _=>.bad 66)
  (λ_ _ _ _ _ _ _ _ _=>.bad 66)
  (λty sz m new h nx k=>Yr m ty sz new h nx k)
  (λo off len cap ty sz m new h nx k=>Vw o off len cap ty sz m new h nx k)
  (λo off len z ty sz m new h nx k=>C7 (Nat.beq sz z) 63 (aRD m o off len ty sz new h nx k))
  (λ_ _ _ _ _ _ _=>.bad 66)
  (λ_ _ _ _ _ _ _=>.bad 66)
  (λ_ _ _ _ _ _ _ _=>.bad 66)
  (λ_ _ _ _ _ _ _=>.bad 66)
  (λ_ _ _ _ _ _ _ _ _ _ _ _=>.bad 66)
  (λ_ _ _ _ _ _ _ _=>.bad 66)
  (λ_ _ _ _ _ _ _=>.bad 66)
  (λ_ _ _ _ _ _ _ _ _ _=>.bad 66)
  (λ_ _ _ _ _ _ _ _ _=>.bad 66)
  (λ_ _ _ _ _ _ _ _ _=>.bad 66)
  (λx ty sz m new h nx k=>Yq ty sz x m new h nx k)
  ⟨⟩ (λ_ _ _ _=>⟨⟩)
def XM:V->Bool->Nat->V->AQ :=
 @V.rec (λ_=>Bool->Nat->V->AQ) (λ_=>PUnit)
  (λ_ _ _ _=>.bad 121)
  (λ_ _ _ _ _=>.bad 121)
  (λ_ _ _ _ _ _=>.bad 121)
  (λ_ _ _ _ _ _=>.bad 121)
  (λ_ _ _ _=>.bad 121)
  (λ_ _ _ _ _ _=>.bad 121)
  (λ_ _ _ _=>.bad 121)
  (λ_ _ _ _ _ _ _ _=>.bad 121)
  (λ_ _ _ _ _ _ _ _=>.bad 121)
  (λ_ _ _ _=>.bad 121)
  (λ_ _ _ _=>.bad 121)
  (λ_ _ _ _ _=>.bad 121)
  (λ_ _ _ _=>.bad 121)
  (λ_ _ _ _ _ _ _ _ _=>.bad 121)
  (λ_ _ _ _ _=>.bad 121)
  (λHc _ z k=>VP Hc z k)
  (λt u _ Hc tt z k=>Wd Hc tt z t u k)
  (λ_ _ _ _ _ _=>.bad 121)
  (λ_ _ _ _ _ _=>.bad 121)
  (λ_ _ _ _ _=>.bad 121)
  ⟨⟩ (λ_ _ _ _=>⟨⟩)
def VM:V->(Nat->V->aa)->aa :=
 @V.rec (λ_=>(Nat->V->aa)->aa) (λ_=>PUnit)
  (λ_=>.bad 123)
  (λ_ _=>.bad 123)
  (λ_ _ _=>.bad 123)
  (λ_ _ _=>.bad 123)
  (λ_=>.bad 123)
  (λ_ _ _=>.bad 123)
  (λ_=>.bad 123)
  (λ_ _ _ _ _=>.bad 123)
  (λ_ _ _ _ _=>.bad 123)
  (λ_=>.bad 123)
  (λ_=>.bad 123)
  (λ_ _=>.bad 123)
  (λ_=>.bad 123)
  (λ_ _ _ _ _ _=>.bad 123)
  (λ_ _=>.bad 123)
  (λ_=>.bad 123)
  (λt u _ k=>k t u)
  (λ_ _ _=>.bad 123)
  (λ_ _ _=>.bad 123)
  (λ_ _=>.bad 123)
  ⟨⟩ (λ_ _ _ _=>⟨⟩)
def a2T(v:V):Xg:=λ_ k=>k v
def ZF:Xg:=λ_ _=>.bad 2
def XH:Xs:=λ_ k=>k []
def XI(g:Xg)(r:Xs):Xs:=λtm k=>g tm λv=>r tm λl=>k (v::l)
def ptN:Dt:=λ_ t k=>k t
abbrev Bd:=T V->List V->(List V->aa)->aa
def Yp:Bd:=λ_ l k=>k l
def VK(off n:Nat)(g:Xg)(r:Bd):Bd:=λtm l k=>g tm λv=>Ob v λc=>mr c λm=>C7 (Nat.beq m n) 28 (W_ l off c λl'=>r tm l' k)
abbrev Og:=T V->Nat->(Nat->aa)->aa
def Xw:Og:=λ_ d k=>k d
def TZ(g:Xg):Og:=λtm _ k=>g tm λv=>vN v k
abbrev Sg:=T V->T V->(T V->aa)->aa
def X2:Sg:=λ_ t k=>k t
def TM(i sz:Nat)(g:Xg)(r:Sg):Sg:=λtm t k=>g tm λv=>Ob v λc=>mr c λm=>C7 (Nat.beq m sz) 57 (qW c (Nat.mul i sz) t λt'=>r tm t' k)
def Xk(g:Xg):Pg:=λtm _ k=>g tm k
def Wa(c x y:Xg):Pg:=λtm _ k=>c tm λv=>vB v λt=>@Bool.rec (λ_=>Xg->Xg->Xg) (λ_ y=>y) (λx _=>x) t x y tm k
def VW(op:BinOp)(x y:Xg):Pg:=λtm _ k=>x tm λa=>y tm λb=>ZT a op b k
def oJ(w:V->(Bool->aa)->aa)(neg:Bool)(x y:Xg):Pg:=λtm _ k=>x tm λa=>y tm λ_=>w a λt=>R4 neg t k
def SX(neg:Bool)(x y:Xg):Pg:=λtm _ k=>x tm λa=>y tm λb=>vB a λp=>vB b λq=>R4 neg (WQ p q) k
def SW(neg:Bool)(x y:Xg):Pg:=λtm h k=>x tm λa=>y tm λb=>z9 a h b λt=>R4 neg t k
def V2(x:Xg):Pg:=λtm _ k=>x tm λv=>vB v λt=>bF (sF t) k
def VU(kd:IntKind)(x:Xg):Pg:=λtm _ k=>x tm λv=>vI v λ_ n=>bn n kd k
def VV(z:List V)(b:Bd):Pg:=λtm _ k=>b tm z λl=>k (.agg l)
def V8(x:Xg):Pg:=λtm h k=>x tm λv=>RM v (λo off=>Ol h o off k) λx=>Li h x k
def V7(n:Nat)(x:Xg):Pg:=λtm h k=>x tm λv=>RM v (λo off=>Ny h o off n λl=>k (.agg l)) λx=>tv h x n λl=>k (.agg l)
def V3(x:Xg):Pg:=λtm _ k=>x tm λv=>ZQ v k
def TV(off:Nat)(x:Xg):Pg:=λtm _ k=>x tm λv=>RM v (λo a=>fN (Nat.add a off) λa'=>k (.ptr o a')) λx=>Nl x off k
def TU(agg:Bool)(off n:Nat)(x:Xg):Pg:=λtm _ k=>x tm λv=>vA v λl=>VB agg off n l k
def TT(sz:Nat)(x i:Xg):Pg:=λtm _ k=>x tm λv=>i tm λj=>vN j λj=>UL v sz j k
def VT(len sz:Nat)(x i:Xg):Pg:=λtm _ k=>x tm λv=>i tm λj=>vN j λj=>vP v λo a=>C7 (Nat.ble (Nat.succ j) len) 49 (fN (Nat.add a (Nat.mul j sz)) λa'=>k (.ptr o a'))
def V9(x i:Xg):Pg:=λtm _ k=>x tm λv=>i tm λj=>vN j λj=>vS v λl n=>C7 (Nat.ble (Nat.succ j) l) 50 (fN (Nat.mod (Nat.div n (Qi j)) (nat_lit 256)) λc=>k (.int .u8 (.ofNat c)))
def Va(agg:Bool)(len sz:Nat)(x i:Xg):Pg:=λtm _ k=>x tm λv=>i tm λj=>vN j λj=>vA v λl=>C7 (Nat.ble (Nat.succ j) len) 51 (fN (Nat.mul j sz) λa=>VB agg a sz l k)
def V0(x:Xg)(lo hi:Og):Pg:=λtm _ k=>x tm λv=>vS v λl n=>lo tm (nat_lit 0) λa=>hi tm l λb=>C7 (kJ (Nat.ble a b) (Nat.ble b l)) 52 (fN (Nat.sub b a) λl'=>fN (Nat.mod (Nat.div n (Qi a)) (Qi (Nat.sub b a))) λn'=>k (.str l' n'))
def V1(sz:Nat)(x:Xg)(lo hi:Og):Pg:=λtm _ k=>x tm λv=>VL v λlen=>lo tm (nat_lit 0) λa=>hi tm len λb=>ZS v sz a b k
def V4(t:Nat)(x:Xg):Pg:=λtm _ k=>x tm λv=>k (.kh t v)
def V5(f:Q)(a b:Xs):Pg:=λtm _ k=>a tm λl=>b tm λm=>k (.fn f l m)
def LC:KK->T O->V->V->(Bool->aa)->aa :=
 @KK.rec (λ_=>T O->V->V->(Bool->aa)->aa)
  (λ_ x y k=>O7 x (nat_lit 35) λl n=>O7 y (nat_lit 32) λm j=>k (kJ (Nat.beq l m) (Nat.beq n j)))
  (λ_ x y k=>O9 x (nat_lit 35) λkd a=>O9 y (nat_lit 34) λIC b=>C7 (Nat.beq (ef kd) (ef IC)) 33 (k (te a b)))
  (λh x y k=>O8 x (nat_lit 35) λo a=>O8 y (nat_lit 34) λo' b=>Qx h o a o' b k)
  (λfs h x y k=>gK (.st fs) h x y k)
abbrev Ke:=V->V->(Bool->aa)->aa
def findF:List (V×V)->Ke->V->(V->aa)->aa->aa :=
 @List.rec (V×V) (λ_=>Ke->V->(V->aa)->aa->aa) (λ_ _ _ kn=>kn)
  (λp _ ih e x k kn=>@Prod.rec V V (λ_=>(Ke->V->(V->aa)->aa->aa)->Ke->V->(V->aa)->aa->aa) (λy v ih e x k kn=>e x y λb=>Ig b (k v) (ih e x k kn)) p ih e x k kn)
abbrev Ku:=List (V×V)->Nat->V->aa
abbrev Ut:=Ke->V->(V->V)->V->Nat->Ku->aa
def VN:List (V×V)->Ut :=
 @List.rec (V×V) (λ_=>Ut) (λ_ x f z i k=>k [(x,f z)] i z)
  (λp es ih e x f z i k=>@Prod.rec V V (λ_=>List (V×V)->Ut->Ut)
   (λy u es ih e x f z i k=>e x y λb=>@Bool.rec (λ_=>V->V->List (V×V)->Ut->Ut) (λy u _ ih e x f z i k=>fN (Nat.succ i) λi'=>ih e x f z i' λDL j w=>k ((y,u)::DL) j w) (λ_ u es _ _ x f _ i k=>k ((x,f u)::es) i u) b y u es ih e x f z i k) p es ih e x f z i k)
def Tn:KK->V->aa->aa:=@KK.rec (λ_=>V->aa->aa) (λ_ k=>k) (λ_ k=>k) (λ_ k=>k) (λfs x k=>jO (.st fs) x k)
def zp(ok:Bool)(z:V)(k:V->aa):aa:=@Bool.rec (λ_=>V->AQ) (λz k=>k z) (λz k=>k (.aj [z,.bool false])) ok z k
def TS(s:KK)(ok:Bool)(z:V)(m key:Xg):Pg:=λtm h k=>m tm λm=>key tm λx=>Tn s x (vM m (nat_lit 53) (λo=>GX o h λob=>Ql ob λes=>findF es (LC s h) x (λv=>UY ok v k) (zp ok z k)) (zp ok z k))
def Wb(x:Xg):Pg:=λtm _ k=>x tm λv=>vS v λl _=>k (.int .i64 (.ofNat l))
def W3(x:Xg):Pg:=λtm _ k=>x tm λv=>VL v λl=>k (.int .i64 (.ofNat l))
def W0(x:Xg):Pg:=λtm h k=>x tm λv=>vM v (nat_lit 54) (λo=>GX o h λob=>Ql ob λes=>mr es λn=>k (.int .i64 (.ofNat n))) (k (.int .i64 (.ofNat (nat_lit 0))))
def V6(x y:Xg):Pg:=λtm _ k=>x tm λa=>y tm λb=>vI a λka n=>vI b λ_ m=>Ig (KU m n) (k (.int ka n)) (k (.int ka m))
def TW(i:Nat)(x:Xg):Pg:=λtm _ k=>x tm λv=>a2I v λl=>Vk l i k
def TP(ok:Bool)(t:Nat)(z:V)(x:Xg):Pg:=λtm _ k=>x tm λv=>XM v ok t z k
def qT(b:PB):Pg:=λtm h k=>pK b tm h k
def xT(ty n:Nat)(t:T V):Ag:=λ_ k=>k (.row n t [] (nat_lit 0) ty true) λq=>.ptr q (nat_lit 0)
def Wz(ty n:Nat)(x:Xg):Ag:=λtm k=>x tm λv=>Ob v λc=>mr c λm=>C7 (Nat.beq m n) 58 (qW c (nat_lit 0) .nil λt=>k (.row n t [] (nat_lit 0) ty true) λq=>.ptr q (nat_lit 0))
def Vy(ty sz len:Nat)(t:T V)(g:Sg):Ag:=λtm k=>g tm t λt'=>fN (Nat.mul len sz) λn=>k (.row n t' [] (nat_lit 0) ty true) λq=>.sl q (nat_lit 0) len len
def aPK:Ag:=λ_ k=>k (.map []) λq=>.map q
def P3(b:AB):Ag:=λtm k=>aK b tm k
def TD(n:Nat)(x y:Xg):Wg:=λtm h nx k=>x tm λp=>vP p λo off=>y tm λv=>Ob v λc=>mr c λm=>C7 (Nat.beq m n) 67 (O6 o off c h λh'=>k V.undef h' nx)
def TF(s:KK)(m key x:Xg):Wg:=λtm h nx k=>m tm λm=>key tm λkv=>x tm λv=>Tn s kv (vM m (nat_lit 68) (λo=>GX o h λob=>Ql ob λes=>VN es (LC s h) kv (λ_=>v) v (nat_lit 0) λDL _ _=>aKV ob DL λOj=>E6 o Oj h λh'=>k V.undef h' nx) (.bad 68))
def TG(ty sz:Nat)(x y:Xg):Wg:=λtm h nx k=>x tm λa=>y tm λb=>z5 b sz h λm new=>C7 (Nat.ble m (nat_lit 16777216)) 71 (XN a ty sz m new h nx k)
def TE(x:Xg):Wg:=λtm h nx k=>x tm λv=>vS v λl n=>QY l n λcs=>qW cs (nat_lit 0) .nil λt=>E6 nx (.ro l t) h λh'=>IU nx λnx'=>k (.su nx (nat_lit 0) l (nat_lit 1)) h' nx'
def qp(b:WB):Wg:=λtm h nx k=>wK b tm h nx k
def OC(l:Q)(j:Jump)(st:Nat)(b:Bool)(ky:Kr)(s:S):aa :=
 @S.rec (λ_=>aa) (λh nx _=>GX l h λob=>oP ob λ_ _ fn tm params B3 body CH=>E6 l (.loop (.mk st j fn tm params B3 body CH)) h λh'=>ky (.bool b) h' nx) s
def za:List (Nat×St)->Nat->St->St :=
 @List.rec (Nat×St) (λ_=>Nat->St->St) (λ_ kn=>kn)
  (λp _ ih id kn=>@Prod.rec Nat St (λ_=>(Nat->St->St)->Nat->St->St) (λi U ih id kn=>@Bool.rec (λ_=>St->(Nat->St->St)->Nat->St->St) (λ_ ih id kn=>ih id kn) (λU _ _ _=>U) (Nat.beq i id) U ih id kn) p ih id kn)
def Z3:Nat->Kr->St:=λ_ _ _ _=>.bad 94
def UW(l:Q):Nat->Kr->St:=λid ky _ s=>OC l (.exit id) (nat_lit 2) false ky s
def Wy:Cx->Nat->St :=
 @Cx.rec (λ_=>Nat->St) λ_ _ rd env _ ky id=>za env id (@Option.rec Q (λ_=>Nat->Kr->St) Z3 UW rd id ky)
def Ve:Cx->St :=
 @Cx.rec (λ_=>St) λ_ _ rd _ kr ky=>@Option.rec Q (λ_=>St->Kr->St) (λkr _=>kr) (λl _ ky _ s=>OC l .ret (nat_lit 2) false ky s) rd kr ky
def X':Jump->Cx->St->St:=@Jump.rec (λ_=>Cx->St->St) (λ_ U=>U) (λcx _=>Ve cx) (λid cx _=>Wy cx id)
def jy(cx:Cx)(l:Q)(U:St)(tm:T V)(h:T O)(nx:Q)(ds:List Df):aa :=
 GX l h λob=>oP ob λst pend fn tm' params B3 body CH=>C7 (sF (Nat.beq st (nat_lit 1))) 102 (E6 l (.loop (.mk (nat_lit 3) pend fn tm' params B3 body CH)) h λh'=>X' pend cx U tm ⟨h',nx,ds⟩)
def uG:Cx->Cl:=@Cx.rec (λ_=>Cl) λcl _ _ _ _ _=>cl
def Xd(g:Xg)(params:List Q)(B3 body:C):Op:=λcx U tm s =>
 g tm λfv=>@S.rec (λ_=>aa) (λh nx ds=>Oa fv (λg fs caps=>@Option.rec Q (λ_=>aa)
   (IU nx λn1=>rP fs (.bN n1::caps) λargs=>E6 nx (.kg false) h λh1=>E6 n1 (.loop (.mk (nat_lit 0) .none cx.f tm params B3 body nx)) h1 λh2=>IU n1 λn2 =>
     uG cx (.fn g [] []) args false h2 n2 λ_ h nx'=>jy cx n1 U tm h nx' (.ml nx::ds))
   (λl=>rP fs (.bN nx::caps) λargs=>GX l h λob=>oP ob λ_ _ _ _ _ _ _ CH=>E6 nx (.loop (.mk (nat_lit 0) .none cx.f tm params B3 body CH)) h λh2=>IU nx λn2 =>
     uG cx (.fn g [] []) args false h2 n2 λ_ h nx'=>jy cx nx U tm h nx' ds) cx.rd)
  (λ_=>.bad 95)) s
def Xp(p:Pg)(d:Dt):Op:=λ_ U tm s=>p tm s.h λv=>d v tm λtm'=>U tm' s
def Xu(a:Ag)(d:Dt):Op:=λ_ U tm s=>@S.rec (λ_=>Ag->Dt->St->T V->aa) (λh nx ds a d U tm=>a tm λob mk=>E6 nx ob h λh'=>d (mk nx) tm λtm'=>IU nx λnx'=>U tm' ⟨h',nx',ds⟩) s a d U tm
def Xo(w:Wg)(d:Dt):Op:=λ_ U tm s=>@S.rec (λ_=>Wg->Dt->St->T V->aa) (λh nx ds w d U tm=>w tm h nx λv h' nx'=>d v tm λtm'=>U tm' ⟨h',nx',ds⟩) s w d U tm
def zX(g:Xg)(gs:Xs)(d:Dt):Op:=λcx U tm s=>g tm λfv=>gs tm λvs=>@S.rec (λ_=>Cl->V->List V->Dt->St->T V->aa) (λh nx ds cl fv vs d U tm=>cl fv vs false h nx λv h' nx'=>d v tm λtm'=>U tm' ⟨h',nx',ds⟩) s (uG cx) fv vs d U tm
def zf:List (Nat×Q)->Nat->(Q->aa)->aa :=
 @List.rec (Nat×Q) (λ_=>Nat->(Q->aa)->aa) (λ_ _=>.bad 122) (λp _ ih t k=>@Prod.rec Nat Q (λ_=>(Nat->(Q->aa)->aa)->Nat->(Q->aa)->aa) (λu f ih t k=>Ig (Nat.beq u t) (k f) (ih t k)) p ih t k)
def V'(ms:List (Nat×Q))(g:Xg)(gs:Xs)(d:Dt):Op:=λcx U tm s=>g tm λv=>gs tm λvs=>VM v λt u=>zf ms t λf=>@S.rec (λ_=>aa) (λh nx ds=>uG cx (.fn f [] []) (u::vs) false h nx λv h' nx'=>d v tm λtm'=>U tm' ⟨h',nx',ds⟩) s
def W7(g:Xg)(gs:Xs)(d:Dt):Op:=λcx U tm s=>(match cx.rd with
 |some _=>.bad 89
 |none=>g tm λfv=>gs tm λvs=>(match fv with
  |.fn g fs caps=>uE vs caps λCL=>uE fs CL λCL=>d V.undef tm λtm'=>@S.rec (λ_=>aa) (λh nx ds=>U tm' ⟨h,nx,.call g CL::ds⟩) s
  |_=>.bad 90))
def W6(d:Dt):Op:=λcx U tm s=>(match cx.rd with
 |some _=>.bad 91
 |none=>d .lz tm λtm'=>U tm' s)
def TY(g:Xg)(w:Bool)(o:Op)(d:Dt):Op:=λcx U tm s=>g tm λv=>yN v w (o cx U) (λtm s=>d V.undef tm λtm'=>U tm' s) tm s
def qO(p:Pg)(g:Xg):Op:=λ_ U tm s=>p tm s.h λv=>g tm λu=>C7 (MN v u) 93 (U tm s)
def ey(g:Xg)(w:Bool)(o:Op):Op:=λcx U tm s=>g tm λv=>yN v w (o cx U) U tm s
def Xq:Op:=λ_ U=>U
def AZ(f g:Op):Op:=λcx U tm s=>f cx (g cx U) tm s
def opC(x:Xg)(f g:Op):Op:=λcx U tm s=>x tm λv=>WW v (f cx U) (g cx U) tm s
def Xt(id:Nat)(o:Op):Op:=λcx U=>@Cx.rec (λ_=>Nat->Op->St->St) (λcl f rd env kr ky id o U=>o ⟨cl,f,rd,(id,U)::env,kr,ky⟩ U) cx id o U
def opL(o:Op):Op:=λcx _=>@Nat.rec (λ_=>St) eG (λ_ again=>o cx again) (nat_lit 1000000)
def opE(id:Nat):Op:=λcx _=>Wy cx id
def opR:Op:=λcx _=>Ve cx
def nC:Op:=λ_ _ _ _=>.bad 210
def Qd:QN Q5->((T6 V->AQ)->D)->D:=@QN.rec Q5 (λ_=>((T6 V->AQ)->D)->D) (λk=>k VG) (λ_ _=>⟨nC⟩) (λ_ _=>⟨nC⟩) (λ_ _=>⟨nC⟩) (λ_ _=>⟨nC⟩)
def Oi:QN Q5->(JQ->D)->D:=@QN.rec Q5 (λ_=>(JQ->D)->D) (λk=>k Td) (λ_ _=>⟨nC⟩) (λ_ _=>⟨nC⟩) (λ_ _=>⟨nC⟩) (λ_ _=>⟨nC⟩)
def Qc:QN Q6->((T7 V->AQ)->D)->D:=@QN.rec Q6 (λ_=>((T7 V->AQ)->D)->D) (λk=>k VF) (λq k=>Qd q λg=>k (ZE g)) (λq k=>Qd q λg=>k (ZD g)) (λq k=>Qd q λg=>k (ZC g)) (λq k=>Qd q λg=>k (ZB g))
def Oh:QN Q6->(JP->D)->D:=@QN.rec Q6 (λ_=>(JP->D)->D) (λk=>k Tc) (λq k=>Oi q λg=>k (ZO g)) (λq k=>Oi q λg=>k (ZN g)) (λq k=>Oi q λg=>k (ZM g)) (λq k=>Oi q λg=>k (ZL g))
def Qb:QN Q7->((T8 V->AQ)->D)->D:=@QN.rec Q7 (λ_=>((T8 V->AQ)->D)->D) (λk=>k VE) (λq k=>Qc q λg=>k (ZA g)) (λq k=>Qc q λg=>k (Yz g)) (λq k=>Qc q λg=>k (Yy g)) (λq k=>Qc q λg=>k (Yx g))
def Of:QN Q7->(JO->D)->D:=@QN.rec Q7 (λ_=>(JO->D)->D) (λk=>k Tb) (λq k=>Oh q λg=>k (ZK g)) (λq k=>Oh q λg=>k (ZJ g)) (λq k=>Oh q λg=>k (ZZ g)) (λq k=>Oh q λg=>k (ZY g))
def Qa:QN Q8->((T9 V->AQ)->D)->D:=@QN.rec Q8 (λ_=>((T9 V->AQ)->D)->D) (λk=>k VD) (λq k=>Qb q λg=>k (Yw g)) (λq k=>Qb q λg=>k (Yv g)) (λq k=>Qb q λg=>k (Yu g)) (λq k=>Qb q λg=>k (Yt g))
def Oe:QN Q8->(JN->D)->D:=@QN.rec Q8 (λ_=>(JN->D)->D) (λk=>k Ta) (λq k=>Of q λg=>k (ZX g)) (λq k=>Of q λg=>k (ZW g)) (λq k=>Of q λg=>k (ZV g)) (λq k=>Of q λg=>k (ZU g))
def br:QN Q9->((N5 V (T9 V)->AQ)->D)->D:=@QN.rec Q9 (λ_=>((N5 V (T9 V)->AQ)->D)->D) (λk=>k Vo) (λq k=>Qa q λg=>k (aLa g)) (λq k=>Qa q λg=>k (aLb g)) (λq k=>Qa q λg=>k (aLc g)) (λq k=>Qa q λg=>k (aLd g))
def VY:QN Q9->(RC->D)->D:=@QN.rec Q9 (λ_=>(RC->D)->D) (λk=>k Vj) (λq k=>Oe q λg=>k (aKX g)) (λq k=>Oe q λg=>k (aKY g)) (λq k=>Oe q λg=>k (aKZ g)) (λq k=>Oe q λg=>k (UC g))
def cX:X->(Xg->D)->D:=@X.rec (λ_=>(Xg->D)->D) (λq k=>br q λg=>k g) (λv k=>k (a2T v)) (λk=>k ZF)
def Nr:List X->(Xs->D)->D:=@List.rec X (λ_=>(Xs->D)->D) (λk=>k XH) (λx _ ih k=>cX x λg=>ih λr=>k (XI g r))
def Zh:Option Q->(Dt->D)->D:=@Option.rec Q (λ_=>(Dt->D)->D) (λk=>k ptN) (λq k=>VY q λp=>k p)
def QX:Option X->(Og->D)->D:=@Option.rec X (λ_=>(Og->D)->D) (λk=>k Xw) (λx k=>cX x λg=>k (TZ g))
def Y8:List (Nat×Nat×X)->(Bd->D)->D:=@List.rec (Nat×Nat×X) (λ_=>(Bd->D)->D) (λk=>k Yp)
 (λp _ ih k=>@Prod.rec Nat (Nat×X) (λ_=>D) (λoff nx=>@Prod.rec Nat X (λ_=>D) (λn x=>cX x λg=>ih λr=>k (VK off n g r)) nx) p)
def Y4(sz:Nat):List (Nat×X)->(Sg->D)->D:=@List.rec (Nat×X) (λ_=>(Sg->D)->D) (λk=>k X2)
 (λp _ ih k=>@Prod.rec Nat X (λ_=>D) (λi x=>cX x λg=>ih λr=>k (TM i sz g r)) p)
def cP:PB->(Pg->D)->D :=
 @PB.rec (λ_=>(Pg->D)->D)
  (mv:=λx k=>cX x λg=>k (Xk g))
  (pick:=λc x y k=>cX c λc=>cX x λx=>cX y λy=>k (Wa c x y))
  (bin:=λop x y k=>cX x λx=>cX y λy=>k (VW op x y))
  (eq:=λneg m x y k=>cX x λx=>cX y λy=>k (@oz.rec (λ_=>Pg) (SW neg x y) (SX neg x y) (oJ Sp neg x y) (oJ Sq neg x y) (oJ Ss neg x y) (oJ Sr neg x y) m))
  (not:=λx k=>cX x λg=>k (V2 g))
  (neg:=λx k=>k (qT (.neg x)))
  (cvi:=λkd x k=>cX x λg=>k (VU kd g))
  (cvs:=λx k=>k (qT (.cvs x)))
  (cis:=λx k=>k (qT (.cis x)))
  (ctu:=λx k=>k (qT (.ctu x)))
  (cfu:=λty n x k=>k (qT (.cfu ty n x)))
  (bld:=λz ps k=>Y8 ps λb=>k (VV z b))
  (ld1:=λx k=>cX x λg=>k (V8 g))
  (ldn:=λn x k=>cX x λg=>k (V7 n g))
  (nck:=λx k=>cX x λg=>k (V3 g))
  (fa:=λoff x k=>cX x λg=>k (TV off g))
  (fd:=λagg off n x k=>cX x λg=>k (TU agg off n g))
  (ia:=λsz x i k=>cX x λx=>cX i λi=>k (TT sz x i))
  (iaa:=λlen sz x i k=>cX x λx=>cX i λi=>k (VT len sz x i))
  (ixs:=λx i k=>cX x λx=>cX i λi=>k (V9 x i))
  (ixa:=λagg len sz x i k=>cX x λx=>cX i λi=>k (Va agg len sz x i))
  (slS:=λx lo hi k=>cX x λx=>QX lo λlo=>QX hi λhi=>k (V0 x lo hi))
  (slL:=λsz x lo hi mx k=>@Option.rec X (λ_=>D) (cX x λx=>QX lo λlo=>QX hi λhi=>k (V1 sz x lo hi)) (λm=>k (qT (.slL sz x lo hi (some m)))) mx)
  (mki:=λt x k=>cX x λg=>k (V4 t g))
  (mkf:=λf fs caps k=>Nr fs λa=>Nr caps λb=>k (V5 f a b))
  (lk:=λs ok z m key k=>cX m λm=>cX key λkey=>k (TS s ok z m key))
  (lenS:=λx k=>cX x λg=>k (Wb g))
  (lenL:=λx k=>cX x λg=>k (W3 g))
  (lenM:=λx k=>cX x λg=>k (W0 g))
  (sd:=λx k=>k (qT (.sd x)))
  (max:=λx y k=>cX x λx=>cX y λy=>k (V6 x y))
  (ex:=λi x k=>cX x λg=>k (TW i g))
  (ta:=λok t z x k=>cX x λg=>k (TP ok t z g))
  (bad:=λk=>k (qT .bad))
def a0v:AB->(Ag->D)->D :=
 @AB.rec (λ_=>(Ag->D)->D)
  (al:=λty n t k=>k (xT ty n t))
  (bx:=λty n x k=>cX x λg=>k (Wz ty n g))
  (bsl:=λty sz len t ps k=>Y4 sz ps λg=>k (Vy ty sz len t g))
  (mkm:=λk=>k aPK)
  (mks:=λty sz z len cap k=>k (P3 (.mks ty sz z len cap)))
def a0y:WB->(Wg->D)->D :=
 @WB.rec (λ_=>(Wg->D)->D)
  (st:=λn x y k=>cX x λx=>cX y λy=>k (TD n x y))
  (mu:=λs m x v k=>cX m λm=>cX x λx=>cX v λv=>k (TF s m x v))
  (me:=λs z m x k=>k (qp (.me s z m x)))
  (es:=λm s v k=>k (qp (.es m s v)))
  (ap:=λty sz x y k=>cX x λx=>cX y λy=>k (TG ty sz x y))
  (cp:=λsz x y k=>k (qp (.cp sz x y)))
  (sb:=λx k=>cX x λg=>k (TE g))
  (us:=λty x n k=>k (qp (.us ty x n)))
def Y6:OB->Dt->(Op->D)->D :=
 @OB.rec (λ_=>Dt->(Op->D)->D)
  (p:=λb d k=>cP b λp=>k (Xp p d))
  (a:=λb d k=>a0v b λa=>k (Xu a d))
  (w:=λb d k=>a0y b λw=>k (Xo w d))
  (call:=λx args d k=>cX x λg=>Nr args λgs=>k (zX g gs d))
  (inv:=λms x args d k=>cX x λg=>Nr args λgs=>k (V' ms g gs d))
  (dfr:=λx args d k=>cX x λg=>Nr args λgs=>k (W7 g gs d))
  (rcv:=λd k=>k (W6 d))
def Y7:CO->(Op->D)->D :=
 @CO.rec (λ_=>(Op->D)->D) λdst g b k=>Zh dst λd=>Y6 b d λo=>@Option.rec (Q×Bool) (λ_=>D) (k o) (λqw=>@Prod.rec Q Bool (λ_=>D) (λq w=>br q λg=>k (TY g w o d)) qw) g
def Y5:PS->(Op->D)->D :=
 @PS.rec (λ_=>(Op->D)->D) (λo k=>Y7 o k)
  (λg p q k=>cP p λp=>br q λr=>@Option.rec (Q×Bool) (λ_=>D) (k (qO p r)) (λqw=>@Prod.rec Q Bool (λ_=>D) (λq w=>br q λg=>k (ey g w (qO p r))) qw) g)
def a0x:List PS->(Op->D)->D :=
 @List.rec PS (λ_=>(Op->D)->D) (λk=>k Xq) (λp _ ih k=>Y5 p λo=>ih λr=>k (AZ o r))
def a0w:C->(Op->D)->D :=
 @C.rec (λ_=>(Op->D)->D)
  (skip:=λk=>k Xq)
  (reg:=λl k=>a0x l k)
  (seq:=λ_ _ IY IX k=>IY λa=>IX λb=>k (AZ a b))
  (cond:=λx _ _ IY IX k=>cX x λg=>IY λa=>IX λb=>k (opC g a b))
  (block:=λid _ ih k=>ih λo=>k (Xt id o))
  (loop:=λ_ ih k=>ih λo=>k (opL o))
  (rf:=λx params B3 body _ _ k=>cX x λg=>k (Xd g params B3 body))
  (exit:=λid k=>k (opE id))
  (scope:=λ_ ih k=>ih k)
  (ret:=λk=>k opR)
  (bad:=λk=>k nC)
def KR(c:C):D:=a0w c D.mk
def ph:D->Op:=@D.rec (λ_=>Op) λo=>o
def OA:List RV->T V->T O->(List V->aa)->aa :=
 @List.rec RV (λ_=>T V->T O->(List V->aa)->aa) (λ_ _ k=>k [])
  (λr _ ih tm h k=>@RV.rec (λ_=>(T V->T O->(List V->aa)->aa)->T V->T O->(List V->aa)->aa)
   (λq ih tm h k=>ML q tm λv=>ih tm h λl=>k (v::l))
   (λagg n q ih tm h k=>ML q tm λp=>vP p λo off=>@Bool.rec (λ_=>aa) (Ol h o off λv=>ih tm h λl'=>k (v::l')) (Ny h o off n λl=>ih tm h λl'=>k (.agg l::l')) agg) r ih tm h k)
def Vh:List V->AQ :=
 @List.rec V (λ_=>AQ) (λk=>k (.aj [])) (λv r _ k=>@List.rec V (λ_=>V->AQ) (λv k=>k v) (λu r _ v k=>k (.aj (v::u::r))) r v k)
abbrev Kn:=T O->Q->aa
def Ws(q:Q)(ih:Kn)(h:T O)(nx:Q):aa:=gO q h λob=>(match ob with
 |.kg false=>pO (.kg true) q h λh'=>ih h' nx
 |_=>.bad 97)
def S8:List Df->Cl->List RV->Kr->T V->Kn :=
 @List.rec Df (λ_=>Cl->List RV->Kr->T V->Kn) (λ_ rs A7 tm h nx=>OA rs tm h λvs=>Vh vs λv=>A7 v h nx)
  (λd _ ih cl rs A7 tm h nx=>@Df.rec (λ_=>Cl->Kn->T O->Q->aa)
   (λg args cl ih h nx=>cl (.fn g [] []) args true h nx λ_ h' nx'=>ih h' nx')
   (λq _ ih h nx=>Ws q ih h nx) d cl (ih cl rs A7 tm) h nx)
def vm(cl:Cl)(rs:List RV)(A7:Kr):St:=λtm s=>@S.rec (λ_=>Cl->List RV->Kr->T V->aa) (λh nx ds cl rs A7 tm=>S8 ds cl rs A7 tm h nx) s cl rs A7 tm
def zN:List V->Nat->T V->(T V->aa)->aa :=
 @List.rec V (λ_=>Nat->T V->(T V->aa)->aa) (λ_ t k=>k t) (λv _ ih i t k=>NM (qn i) v t λt'=>ih (Nat.succ i) t' k)
def dq(o:Op)(cl:Cl)(f:Q)(tm:T V)(h:T O)(nx:Q)(kr:St):aa:=o ⟨cl,f,none,[],kr,UX⟩ kr tm ⟨h,nx,[]⟩
def F9:GT->Nat->Nat->AQ :=
 @GT.rec (λ_=>Nat->Nat->AQ) (λv _ _ k=>k v) (λl n v l' n' k=>C7 (kJ (Nat.beq l l') (Nat.beq n n')) 131 (k v))
  (λp _ _ IY IX l' n' k=>@Bool.rec (λ_=>(Nat->Nat->AQ)->(Nat->Nat->AQ)->Nat->Nat->AQ) (λ_ b l n k=>b l n k) (λa _ l n k=>a l n k) (Nat.ble n' p) IY IX l' n' k) (λ_ _ _ _ _ _=>.bad 133)
def ZR:V->GT->AQ :=
 @V.rec (λ_=>GT->AQ) (λ_=>PUnit)
  (λg k=>F9 g (nat_lit 0) (nat_lit 0) k)
  (λ_ g k=>F9 g (nat_lit 0) (nat_lit 0) k)
  (λ_ _ g k=>F9 g (nat_lit 0) (nat_lit 0) k)
  (λl n g k=>F9 g l n k)
  (λg k=>F9 g (nat_lit 0) (nat_lit 0) k)
  (λ_ _ g k=>F9 g (nat_lit 0) (nat_lit 0) k)
  (λg k=>F9 g (nat_lit 0) (nat_lit 0) k)
  (λ_ _ _ _ g k=>F9 g (nat_lit 0) (nat_lit 0) k)
  (λ_ _ _ _ g k=>F9 g (nat_lit 0) (nat_lit 0) k)
  (λg k=>F9 g (nat_lit 0) (nat_lit 0) k)
  (λg k=>F9 g (nat_lit 0) (nat_lit 0) k)
  (λ_ g k=>F9 g (nat_lit 0) (nat_lit 0) k)
  (λg k=>F9 g (nat_lit 0) (nat_lit 0) k)
  (λ_ _ _ _ _ g k=>F9 g (nat_lit 0) (nat_lit 0) k)
  (λ_ g k=>F9 g (nat_lit 0) (nat_lit 0) k)
  (λg k=>F9 g (nat_lit 0) (nat_lit 0) k)
  (λ_ _ _ g k=>F9 g (nat_lit 0) (nat_lit 0) k)
  (λvs _ g k=>Qj g vs k)
  (λ_ _ g k=>F9 g (nat_lit 0) (nat_lit 0) k)
  (λ_ g k=>F9 g (nat_lit 0) (nat_lit 0) k)
  ⟨⟩ (λ_ _ _ _=>⟨⟩)
def Vu(g:GT)(args:List V)(k:V->aa):aa :=
 @List.rec V (λ_=>GT->AQ) (λg k=>F9 g (nat_lit 0) (nat_lit 0) k) (λx l _ g k=>@List.rec V (λ_=>GT->AQ) (λg k=>ZR x g k) (λ_ _ _ _ _=>.bad 134) l g k) args g k
def QU:CF->Cl->Q->List V->Bool->T O->Q->Kr->aa :=
 @CF.rec (λ_=>Cl->Q->List V->Bool->T O->Q->Kr->aa) (λ_ _ _ _ _ _ _=>.bad 83)
  (λbody rs cl f args _ h nx A7=>zN args (nat_lit 0) .nil λtm=>dq (ph (KR body)) cl f tm h nx (vm cl rs A7))
  (λn _ _ args dk h nx A7=>@Bool.rec (λ_=>aa) (dw n args λv=>A7 v h nx) (.bad 78) dk)
  (λg _ _ args dk h nx A7=>@Bool.rec (λ_=>aa) (Vu g args λv=>A7 v h nx) (.bad 78) dk)
  (λ_ _ _ _ _ _ _ _ _ _=>.bad 135)
def VZ:List Q->List V->T V->(T V->aa)->aa :=
 @List.rec Q (λ_=>List V->T V->(T V->aa)->aa) (λvs t k=>@List.rec V (λ_=>T V->(T V->aa)->aa) (λt k=>k t) (λ_ _ _ _ _=>.bad 82) vs t k)
  (λq _ ih vs t k=>@List.rec V (λ_=>Q->(List V->T V->(T V->aa)->aa)->T V->(T V->aa)->aa) (λ_ _ _ _=>.bad 82) (λv vs _ q ih t k=>NM q v t λt'=>ih vs t' k) vs q ih t k)
def aKi(cl:Cl)(l fn:Q)(body:C)(A7:Kr):St:=λtm s=>@S.rec (λ_=>aa) (λh nx ds=>GX l h λob=>oP ob λst pend GH tm' params B3 Gw CH=>C7 (Nat.beq st (nat_lit 0)) 104 (E6 l (.loop (.mk (nat_lit 1) pend GH tm' params B3 Gw CH)) h λh' =>
 ph (KR body) ⟨cl,fn,some l,[],eG,A7⟩ (λ_ s=>OC l .none (nat_lit 0) true A7 s) tm ⟨h',nx,ds⟩)) s
def vl(cl:Cl)(l:Q)(args:List V)(h:T O)(nx:Q)(A7:Kr):aa :=
 GX l h λob=>oP ob λ_ _ fn tm params B3 body _=>VZ params args tm λtm' =>
  ph (KR B3) ⟨cl,fn,some l,[],eG,A7⟩ (aKi cl l fn body A7) tm' ⟨h,nx,[]⟩
def Zg(fe:Q->CF)(cl:Cl):Cl:=λfv args dk h nx A7 =>
 Oa fv (λf fs caps=>OM fs args caps λl=>QU (fe f) cl f l dk h nx A7)
  (λl=>@Bool.rec (λ_=>Cl->Q->List V->T O->Q->Kr->aa) vl (λ_ _ _ _ _ _=>.bad 202) dk cl l args h nx A7)
def jn(fe:Q->CF)(n:Nat):Cl:=@Nat.rec (λ_=>Cl) (λ_ _ _ _ _ _=>.bad 203) (λ_ cl=>Zg fe cl) n
def ZI(fe:Q->CF)(n:Nat)(f:Q)(args:List V)(h0:T O)(nx:Q):aa:=jn fe n (.fn f [] []) args false h0 nx λv h _=>.ok (fin v h)
def my(fe:Q->CF)(n:Nat)(f:Q)(args:List V)(nx:Q):aa:=ZI fe n f args .nil nx
end Go.CM
end
