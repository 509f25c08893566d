import Derived.Test.YtdkkaldimefljaaGreatDoorC00
set_option linter.all false
noncomputable section
namespace Go.CM
abbrev AO:=(V->AA)->AA
abbrev AV:=(O->AA)->AA
def ev1:T1 V->AO:=@N5.rec V (TQ V) (λ_=>AO) (λv _ _ _ _ k=>k v)
def aTD(g:TQ V->AO)(t:T1 V)(k:V->AA):AA:=@N5.rec V (TQ V) (λ_=>(TQ V->AO)->AO) (λ_ a _ _ _ g k=>g a k) t g k
def aTE(g:TQ V->AO)(t:T1 V)(k:V->AA):AA:=@N5.rec V (TQ V) (λ_=>(TQ V->AO)->AO) (λ_ _ b _ _ g k=>g b k) t g k
def aTF(g:TQ V->AO)(t:T1 V)(k:V->AA):AA:=@N5.rec V (TQ V) (λ_=>(TQ V->AO)->AO) (λ_ _ _ c _ g k=>g c k) t g k
def aTG(g:TQ V->AO)(t:T1 V)(k:V->AA):AA:=@N5.rec V (TQ V) (λ_=>(TQ V->AO)->AO) (λ_ _ _ _ d g k=>g d k) t g k
def Q0(q:QR)(t:TQ V)(k:V->AA):AA:=k (t.get Dft.z q)
def QZ:QN QR->T1 V->AO:=@QN.rec QR (λ_=>T1 V->AO) ev1 (λq=>aTD (Q0 q)) (λq=>aTE (Q0 q)) (λq=>aTF (Q0 q)) (λq=>aTG (Q0 q))
abbrev K9:=V->T1 V->(T1 V->AA)->AA
def nv1(v:V)(t:T1 V)(k:T1 V->AA):AA:=@N5.rec V (TQ V) (λ_=>V->(T1 V->AA)->AA) (λ_ a b c d v k=>k (.mk v a b c d)) t v k
abbrev M0:=V->TQ V->(TQ V->AA)->AA
def Qt(q:QR)(v:V)(t:TQ V)(k:TQ V->AA):AA:=k (t.put Dft.z v q)
def aSy(p:M0)(v:V)(t:T1 V)(k:T1 V->AA):AA:=@N5.rec V (TQ V) (λ_=>M0->V->(T1 V->AA)->AA) (λu a b c d p v k=>p v a λx=>k (.mk u x b c d)) t p v k
def aSz(p:M0)(v:V)(t:T1 V)(k:T1 V->AA):AA:=@N5.rec V (TQ V) (λ_=>M0->V->(T1 V->AA)->AA) (λu a b c d p v k=>p v b λx=>k (.mk u a x c d)) t p v k
def aSA(p:M0)(v:V)(t:T1 V)(k:T1 V->AA):AA:=@N5.rec V (TQ V) (λ_=>M0->V->(T1 V->AA)->AA) (λu a b c d p v k=>p v c λx=>k (.mk u a b x d)) t p v k
def aSB(p:M0)(v:V)(t:T1 V)(k:T1 V->AA):AA:=@N5.rec V (TQ V) (λ_=>M0->V->(T1 V->AA)->AA) (λu a b c d p v k=>p v d λx=>k (.mk u a b c x)) t p v k
def Qs:QN QR->K9:=@QN.rec QR (λ_=>K9) nv1 (λq=>aSy (Qt q)) (λq=>aSz (Qt q)) (λq=>aSA (Qt q)) (λq=>aSB (Qt q))
def ev2:T2 V->AO:=@N5.rec V (T1 V) (λ_=>AO) (λv _ _ _ _ k=>k v)
def aTH(g:T1 V->AO)(t:T2 V)(k:V->AA):AA:=@N5.rec V (T1 V) (λ_=>(T1 V->AO)->AO) (λ_ a _ _ _ g k=>g a k) t g k
def aTI(g:T1 V->AO)(t:T2 V)(k:V->AA):AA:=@N5.rec V (T1 V) (λ_=>(T1 V->AO)->AO) (λ_ _ b _ _ g k=>g b k) t g k
def aTJ(g:T1 V->AO)(t:T2 V)(k:V->AA):AA:=@N5.rec V (T1 V) (λ_=>(T1 V->AO)->AO) (λ_ _ _ c _ g k=>g c k) t g k
def aTK(g:T1 V->AO)(t:T2 V)(k:V->AA):AA:=@N5.rec V (T1 V) (λ_=>(T1 V->AO)->AO) (λ_ _ _ _ d g k=>g d k) t g k
def QY:QN Q1->T2 V->AO:=@QN.rec Q1 (λ_=>T2 V->AO) ev2 (λq=>aTH (QZ q)) (λq=>aTI (QZ q)) (λq=>aTJ (QZ q)) (λq=>aTK (QZ q))
abbrev K8:=V->T2 V->(T2 V->AA)->AA
def nv2(v:V)(t:T2 V)(k:T2 V->AA):AA:=@N5.rec V (T1 V) (λ_=>V->(T2 V->AA)->AA) (λ_ a b c d v k=>k (.mk v a b c d)) t v k
def aSC(p:K9)(v:V)(t:T2 V)(k:T2 V->AA):AA:=@N5.rec V (T1 V) (λ_=>K9->V->(T2 V->AA)->AA) (λu a b c d p v k=>p v a λx=>k (.mk u x b c d)) t p v k
def aSD(p:K9)(v:V)(t:T2 V)(k:T2 V->AA):AA:=@N5.rec V (T1 V) (λ_=>K9->V->(T2 V->AA)->AA) (λu a b c d p v k=>p v b λx=>k (.mk u a x c d)) t p v k
def aSE(p:K9)(v:V)(t:T2 V)(k:T2 V->AA):AA:=@N5.rec V (T1 V) (λ_=>K9->V->(T2 V->AA)->AA) (λu a b c d p v k=>p v c λx=>k (.mk u a b x d)) t p v k
def aSF(p:K9)(v:V)(t:T2 V)(k:T2 V->AA):AA:=@N5.rec V (T1 V) (λ_=>K9->V->(T2 V->AA)->AA) (λu a b c d p v k=>p v d λx=>k (.mk u a b c x)) t p v k
def Qr:QN Q1->K8:=@QN.rec Q1 (λ_=>K8) nv2 (λq=>aSC (Qs q)) (λq=>aSD (Qs q)) (λq=>aSE (Qs q)) (λq=>aSF (Qs q))
def ev3:T3 V->AO:=@N5.rec V (T2 V) (λ_=>AO) (λv _ _ _ _ k=>k v)
def aTL(g:T2 V->AO)(t:T3 V)(k:V->AA):AA:=@N5.rec V (T2 V) (λ_=>(T2 V->AO)->AO) (λ_ a _ _ _ g k=>g a k) t g k
def aTM(g:T2 V->AO)(t:T3 V)(k:V->AA):AA:=@N5.rec V (T2 V) (λ_=>(T2 V->AO)->AO) (λ_ _ b _ _ g k=>g b k) t g k
def aTN(g:T2 V->AO)(t:T3 V)(k:V->AA):AA:=@N5.rec V (T2 V) (λ_=>(T2 V->AO)->AO) (λ_ _ _ c _ g k=>g c k) t g k
def aTO(g:T2 V->AO)(t:T3 V)(k:V->AA):AA:=@N5.rec V (T2 V) (λ_=>(T2 V->AO)->AO) (λ_ _ _ _ d g k=>g d k) t g k
def QX:QN Q2->T3 V->AO:=@QN.rec Q2 (λ_=>T3 V->AO) ev3 (λq=>aTL (QY q)) (λq=>aTM (QY q)) (λq=>aTN (QY q)) (λq=>aTO (QY q))
abbrev K7:=V->T3 V->(T3 V->AA)->AA
def nv3(v:V)(t:T3 V)(k:T3 V->AA):AA:=@N5.rec V (T2 V) (λ_=>V->(T3 V->AA)->AA) (λ_ a b c d v k=>k (.mk v a b c d)) t v k
def aSG(p:K8)(v:V)(t:T3 V)(k:T3 V->AA):AA:=@N5.rec V (T2 V) (λ_=>K8->V->(T3 V->AA)->AA) (λu a b c d p v k=>p v a λx=>k (.mk u x b c d)) t p v k
def aSH(p:K8)(v:V)(t:T3 V)(k:T3 V->AA):AA:=@N5.rec V (T2 V) (λ_=>K8->V->(T3 V->AA)->AA) (λu a b c d p v k=>p v b λx=>k (.mk u a x c d)) t p v k
def aSI(p:K8)(v:V)(t:T3 V)(k:T3 V->AA):AA:=@N5.rec V (T2 V) (λ_=>K8->V->(T3 V->AA)->AA) (λu a b c d p v k=>p v c λx=>k (.mk u a b x d)) t p v k
def aSJ(p:K8)(v:V)(t:T3 V)(k:T3 V->AA):AA:=@N5.rec V (T2 V) (λ_=>K8->V->(T3 V->AA)->AA) (λu a b c d p v k=>p v d λx=>k (.mk u a b c x)) t p v k
def Qq:QN Q2->K7:=@QN.rec Q2 (λ_=>K7) nv3 (λq=>aSG (Qr q)) (λq=>aSH (Qr q)) (λq=>aSI (Qr q)) (λq=>aSJ (Qr q))
def ev4:T4 V->AO:=@N5.rec V (T3 V) (λ_=>AO) (λv _ _ _ _ k=>k v)
def aTP(g:T3 V->AO)(t:T4 V)(k:V->AA):AA:=@N5.rec V (T3 V) (λ_=>(T3 V->AO)->AO) (λ_ a _ _ _ g k=>g a k) t g k
def aTQ(g:T3 V->AO)(t:T4 V)(k:V->AA):AA:=@N5.rec V (T3 V) (λ_=>(T3 V->AO)->AO) (λ_ _ b _ _ g k=>g b k) t g k
def aTR(g:T3 V->AO)(t:T4 V)(k:V->AA):AA:=@N5.rec V (T3 V) (λ_=>(T3 V->AO)->AO) (λ_ _ _ c _ g k=>g c k) t g k
def aTS(g:T3 V->AO)(t:T4 V)(k:V->AA):AA:=@N5.rec V (T3 V) (λ_=>(T3 V->AO)->AO) (λ_ _ _ _ d g k=>g d k) t g k
def QW:QN Q3->T4 V->AO:=@QN.rec Q3 (λ_=>T4 V->AO) ev4 (λq=>aTP (QX q)) (λq=>aTQ (QX q)) (λq=>aTR (QX q)) (λq=>aTS (QX q))
abbrev K6:=V->T4 V->(T4 V->AA)->AA
def nv4(v:V)(t:T4 V)(k:T4 V->AA):AA:=@N5.rec V (T3 V) (λ_=>V->(T4 V->AA)->AA) (λ_ a b c d v k=>k (.mk v a b c d)) t v k
def aSK(p:K7)(v:V)(t:T4 V)(k:T4 V->AA):AA:=@N5.rec V (T3 V) (λ_=>K7->V->(T4 V->AA)->AA) (λu a b c d p v k=>p v a λx=>k (.mk u x b c d)) t p v k
def aSL(p:K7)(v:V)(t:T4 V)(k:T4 V->AA):AA:=@N5.rec V (T3 V) (λ_=>K7->V->(T4 V->AA)->AA) (λu a b c d p v k=>p v b λx=>k (.mk u a x c d)) t p v k
def aSM(p:K7)(v:V)(t:T4 V)(k:T4 V->AA):AA:=@N5.rec V (T3 V) (λ_=>K7->V->(T4 V->AA)->AA) (λu a b c d p v k=>p v c λx=>k (.mk u a b x d)) t p v k
def aSN(p:K7)(v:V)(t:T4 V)(k:T4 V->AA):AA:=@N5.rec V (T3 V) (λ_=>K7->V->(T4 V->AA)->AA) (λu a b c d p v k=>p v d λx=>k (.mk u a b c x)) t p v k
def Qp:QN Q3->K6:=@QN.rec Q3 (λ_=>K6) nv4 (λq=>aSK (Qq q)) (λq=>aSL (Qq q)) (λq=>aSM (Qq q)) (λq=>aSN (Qq q))
def ev5:T5 V->AO:=@N5.rec V (T4 V) (λ_=>AO) (λv _ _ _ _ k=>k v)
def aTT(g:T4 V->AO)(t:T5 V)(k:V->AA):AA:=@N5.rec V (T4 V) (λ_=>(T4 V->AO)->AO) (λ_ a _ _ _ g k=>g a k) t g k
def aTU(g:T4 V->AO)(t:T5 V)(k:V->AA):AA:=@N5.rec V (T4 V) (λ_=>(T4 V->AO)->AO) (λ_ _ b _ _ g k=>g b k) t g k
def aTV(g:T4 V->AO)(t:T5 V)(k:V->AA):AA:=@N5.rec V (T4 V) (λ_=>(T4 V->AO)->AO) (λ_ _ _ c _ g k=>g c k) t g k
def aTW(g:T4 V->AO)(t:T5 V)(k:V->AA):AA:=@N5.rec V (T4 V) (λ_=>(T4 V->AO)->AO) (λ_ _ _ _ d g k=>g d k) t g k
def QV:QN Q4->T5 V->AO:=@QN.rec Q4 (λ_=>T5 V->AO) ev5 (λq=>aTT (QW q)) (λq=>aTU (QW q)) (λq=>aTV (QW q)) (λq=>aTW (QW q))
abbrev K5:=V->T5 V->(T5 V->AA)->AA
def nv5(v:V)(t:T5 V)(k:T5 V->AA):AA:=@N5.rec V (T4 V) (λ_=>V->(T5 V->AA)->AA) (λ_ a b c d v k=>k (.mk v a b c d)) t v k
def aSO(p:K6)(v:V)(t:T5 V)(k:T5 V->AA):AA:=@N5.rec V (T4 V) (λ_=>K6->V->(T5 V->AA)->AA) (λu a b c d p v k=>p v a λx=>k (.mk u x b c d)) t p v k
def aSP(p:K6)(v:V)(t:T5 V)(k:T5 V->AA):AA:=@N5.rec V (T4 V) (λ_=>K6->V->(T5 V->AA)->AA) (λu a b c d p v k=>p v b λx=>k (.mk u a x c d)) t p v k
def aSQ(p:K6)(v:V)(t:T5 V)(k:T5 V->AA):AA:=@N5.rec V (T4 V) (λ_=>K6->V->(T5 V->AA)->AA) (λu a b c d p v k=>p v c λx=>k (.mk u a b x d)) t p v k
def aSR(p:K6)(v:V)(t:T5 V)(k:T5 V->AA):AA:=@N5.rec V (T4 V) (λ_=>K6->V->(T5 V->AA)->AA) (λu a b c d p v k=>p v d λx=>k (.mk u a b c x)) t p v k
def Qo:QN Q4->K5:=@QN.rec Q4 (λ_=>K5) nv5 (λq=>aSO (Qp q)) (λq=>aSP (Qp q)) (λq=>aSQ (Qp q)) (λq=>aSR (Qp q))
def Wj:T6 V->AO:=@N5.rec V (T5 V) (λ_=>AO) (λv _ _ _ _ k=>k v)
def aTX(g:T5 V->AO)(t:T6 V)(k:V->AA):AA:=@N5.rec V (T5 V) (λ_=>(T5 V->AO)->AO) (λ_ a _ _ _ g k=>g a k) t g k
def aTY(g:T5 V->AO)(t:T6 V)(k:V->AA):AA:=@N5.rec V (T5 V) (λ_=>(T5 V->AO)->AO) (λ_ _ b _ _ g k=>g b k) t g k
def aTZ(g:T5 V->AO)(t:T6 V)(k:V->AA):AA:=@N5.rec V (T5 V) (λ_=>(T5 V->AO)->AO) (λ_ _ _ c _ g k=>g c k) t g k
def aT0(g:T5 V->AO)(t:T6 V)(k:V->AA):AA:=@N5.rec V (T5 V) (λ_=>(T5 V->AO)->AO) (λ_ _ _ _ d g k=>g d k) t g k
def QU:QN Q5->T6 V->AO:=@QN.rec Q5 (λ_=>T6 V->AO) Wj (λq=>aTX (QV q)) (λq=>aTY (QV q)) (λq=>aTZ (QV q)) (λq=>aT0 (QV q))
abbrev Iw:=V->T6 V->(T6 V->AA)->AA
def VB(v:V)(t:T6 V)(k:T6 V->AA):AA:=@N5.rec V (T5 V) (λ_=>V->(T6 V->AA)->AA) (λ_ a b c d v k=>k (.mk v a b c d)) t v k
def aSS(p:K5)(v:V)(t:T6 V)(k:T6 V->AA):AA:=@N5.rec V (T5 V) (λ_=>K5->V->(T6 V->AA)->AA) (λu a b c d p v k=>p v a λx=>k (.mk u x b c d)) t p v k
def aST(p:K5)(v:V)(t:T6 V)(k:T6 V->AA):AA:=@N5.rec V (T5 V) (λ_=>K5->V->(T6 V->AA)->AA) (λu a b c d p v k=>p v b λx=>k (.mk u a x c d)) t p v k
def aSU(p:K5)(v:V)(t:T6 V)(k:T6 V->AA):AA:=@N5.rec V (T5 V) (λ_=>K5->V->(T6 V->AA)->AA) (λu a b c d p v k=>p v c λx=>k (.mk u a b x d)) t p v k
def aSV(p:K5)(v:V)(t:T6 V)(k:T6 V->AA):AA:=@N5.rec V (T5 V) (λ_=>K5->V->(T6 V->AA)->AA) (λu a b c d p v k=>p v d λx=>k (.mk u a b c x)) t p v k
def Qn:QN Q5->Iw:=@QN.rec Q5 (λ_=>Iw) VB (λq=>aSS (Qo q)) (λq=>aST (Qo q)) (λq=>aSU (Qo q)) (λq=>aSV (Qo q))
def Wi:T7 V->AO:=@N5.rec V (T6 V) (λ_=>AO) (λv _ _ _ _ k=>k v)
def Tb(g:T6 V->AO)(t:T7 V)(k:V->AA):AA:=@N5.rec V (T6 V) (λ_=>(T6 V->AO)->AO) (λ_ a _ _ _ g k=>g a k) t g k
def Ta(g:T6 V->AO)(t:T7 V)(k:V->AA):AA:=@N5.rec V (T6 V) (λ_=>(T6 V->AO)->AO) (λ_ _ b _ _ g k=>g b k) t g k
def TF(g:T6 V->AO)(t:T7 V)(k:V->AA):AA:=@N5.rec V (T6 V) (λ_=>(T6 V->AO)->AO) (λ_ _ _ c _ g k=>g c k) t g k
def TE(g:T6 V->AO)(t:T7 V)(k:V->AA):AA:=@N5.rec V (T6 V) (λ_=>(T6 V->AO)->AO) (λ_ _ _ _ d g k=>g d k) t g k
def QT:QN Q6->T7 V->AO:=@QN.rec Q6 (λ_=>T7 V->AO) Wi (λq=>Tb (QU q)) (λq=>Ta (QU q)) (λq=>TF (QU q)) (λq=>TE (QU q))
abbrev Iv:=V->T7 V->(T7 V->AA)->AA
def VA(v:V)(t:T7 V)(k:T7 V->AA):AA:=@N5.rec V (T6 V) (λ_=>V->(T7 V->AA)->AA) (λ_ a b c d v k=>k (.mk v a b c d)) t v k
def TV(p:Iw)(v:V)(t:T7 V)(k:T7 V->AA):AA:=@N5.rec V (T6 V) (λ_=>Iw->V->(T7 V->AA)->AA) (λu a b c d p v k=>p v a λx=>k (.mk u x b c d)) t p v k
def TU(p:Iw)(v:V)(t:T7 V)(k:T7 V->AA):AA:=@N5.rec V (T6 V) (λ_=>Iw->V->(T7 V->AA)->AA) (λu a b c d p v k=>p v b λx=>k (.mk u a x c d)) t p v k
def TT(p:Iw)(v:V)(t:T7 V)(k:T7 V->AA):AA:=@N5.rec V (T6 V) (λ_=>Iw->V->(T7 V->AA)->AA) (λu a b c d p v k=>p v c λx=>k (.mk u a b x d)) t p v k
def TS(p:Iw)(v:V)(t:T7 V)(k:T7 V->AA):AA:=@N5.rec V (T6 V) (λ_=>Iw->V->(T7 V->AA)->AA) (λu a b c d p v k=>p v d λx=>k (.mk u a b c x)) t p v k
def Qm:QN Q6->Iv:=@QN.rec Q6 (λ_=>Iv) VA (λq=>TV (Qn q)) (λq=>TU (Qn q)) (λq=>TT (Qn q)) (λq=>TS (Qn q))
def Wh:T8 V->AO:=@N5.rec V (T7 V) (λ_=>AO) (λv _ _ _ _ k=>k v)
def TD(g:T7 V->AO)(t:T8 V)(k:V->AA):AA:=@N5.rec V (T7 V) (λ_=>(T7 V->AO)->AO) (λ_ a _ _ _ g k=>g a k) t g k
def TC(g:T7 V->AO)(t:T8 V)(k:V->AA):AA:=@N5.rec V (T7 V) (λ_=>(T7 V->AO)->AO) (λ_ _ b _ _ g k=>g b k) t g k
def TB(g:T7 V->AO)(t:T8 V)(k:V->AA):AA:=@N5.rec V (T7 V) (λ_=>(T7 V->AO)->AO) (λ_ _ _ c _ g k=>g c k) t g k
def TA(g:T7 V->AO)(t:T8 V)(k:V->AA):AA:=@N5.rec V (T7 V) (λ_=>(T7 V->AO)->AO) (λ_ _ _ _ d g k=>g d k) t g k
def QS:QN Q7->T8 V->AO:=@QN.rec Q7 (λ_=>T8 V->AO) Wh (λq=>TD (QT q)) (λq=>TC (QT q)) (λq=>TB (QT q)) (λq=>TA (QT q))
abbrev Iu:=V->T8 V->(T8 V->AA)->AA
def Uz(v:V)(t:T8 V)(k:T8 V->AA):AA:=@N5.rec V (T7 V) (λ_=>V->(T8 V->AA)->AA) (λ_ a b c d v k=>k (.mk v a b c d)) t v k
def TP(p:Iv)(v:V)(t:T8 V)(k:T8 V->AA):AA:=@N5.rec V (T7 V) (λ_=>Iv->V->(T8 V->AA)->AA) (λu a b c d p v k=>p v a λx=>k (.mk u x b c d)) t p v k
def TO(p:Iv)(v:V)(t:T8 V)(k:T8 V->AA):AA:=@N5.rec V (T7 V) (λ_=>Iv->V->(T8 V->AA)->AA) (λu a b c d p v k=>p v b λx=>k (.mk u a x c d)) t p v k
def TN(p:Iv)(v:V)(t:T8 V)(k:T8 V->AA):AA:=@N5.rec V (T7 V) (λ_=>Iv->V->(T8 V->AA)->AA) (λu a b c d p v k=>p v c λx=>k (.mk u a b x d)) t p v k
def TM(p:Iv)(v:V)(t:T8 V)(k:T8 V->AA):AA:=@N5.rec V (T7 V) (λ_=>Iv->V->(T8 V->AA)->AA) (λu a b c d p v k=>p v d λx=>k (.mk u a b c x)) t p v k
def Ql:QN Q7->Iu:=@QN.rec Q7 (λ_=>Iu) Uz (λq=>TP (Qm q)) (λq=>TO (Qm q)) (λq=>TN (Qm q)) (λq=>TM (Qm q))
def Wf:T9 V->AO:=@N5.rec V (T8 V) (λ_=>AO) (λv _ _ _ _ k=>k v)
def Sz(g:T8 V->AO)(t:T9 V)(k:V->AA):AA:=@N5.rec V (T8 V) (λ_=>(T8 V->AO)->AO) (λ_ a _ _ _ g k=>g a k) t g k
def Sy(g:T8 V->AO)(t:T9 V)(k:V->AA):AA:=@N5.rec V (T8 V) (λ_=>(T8 V->AO)->AO) (λ_ _ b _ _ g k=>g b k) t g k
def Sx(g:T8 V->AO)(t:T9 V)(k:V->AA):AA:=@N5.rec V (T8 V) (λ_=>(T8 V->AO)->AO) (λ_ _ _ c _ g k=>g c k) t g k
def Sw(g:T8 V->AO)(t:T9 V)(k:V->AA):AA:=@N5.rec V (T8 V) (λ_=>(T8 V->AO)->AO) (λ_ _ _ _ d g k=>g d k) t g k
def QQ:QN Q8->T9 V->AO:=@QN.rec Q8 (λ_=>T9 V->AO) Wf (λq=>Sz (QS q)) (λq=>Sy (QS q)) (λq=>Sx (QS q)) (λq=>Sw (QS q))
abbrev It:=V->T9 V->(T9 V->AA)->AA
def Uy(v:V)(t:T9 V)(k:T9 V->AA):AA:=@N5.rec V (T8 V) (λ_=>V->(T9 V->AA)->AA) (λ_ a b c d v k=>k (.mk v a b c d)) t v k
def TK(p:Iu)(v:V)(t:T9 V)(k:T9 V->AA):AA:=@N5.rec V (T8 V) (λ_=>Iu->V->(T9 V->AA)->AA) (λu a b c d p v k=>p v a λx=>k (.mk u x b c d)) t p v k
def TJ(p:Iu)(v:V)(t:T9 V)(k:T9 V->AA):AA:=@N5.rec V (T8 V) (λ_=>Iu->V->(T9 V->AA)->AA) (λu a b c d p v k=>p v b λx=>k (.mk u a x c d)) t p v k
def TI(p:Iu)(v:V)(t:T9 V)(k:T9 V->AA):AA:=@N5.rec V (T8 V) (λ_=>Iu->V->(T9 V->AA)->AA) (λu a b c d p v k=>p v c λx=>k (.mk u a b x d)) t p v k
def Td(p:Iu)(v:V)(t:T9 V)(k:T9 V->AA):AA:=@N5.rec V (T8 V) (λ_=>Iu->V->(T9 V->AA)->AA) (λu a b c d p v k=>p v d λx=>k (.mk u a b c x)) t p v k
def Qk:QN Q8->It:=@QN.rec Q8 (λ_=>It) Uy (λq=>TK (Ql q)) (λq=>TJ (Ql q)) (λq=>TI (Ql q)) (λq=>Td (Ql q))
def XZ:N5 V (T9 V)->AO:=@N5.rec V (T9 V) (λ_=>AO) (λv _ _ _ _ k=>k v)
def UJ(g:T9 V->AO)(t:N5 V (T9 V))(k:V->AA):AA:=@N5.rec V (T9 V) (λ_=>(T9 V->AO)->AO) (λ_ a _ _ _ g k=>g a k) t g k
def UI(g:T9 V->AO)(t:N5 V (T9 V))(k:V->AA):AA:=@N5.rec V (T9 V) (λ_=>(T9 V->AO)->AO) (λ_ _ b _ _ g k=>g b k) t g k
def UH(g:T9 V->AO)(t:N5 V (T9 V))(k:V->AA):AA:=@N5.rec V (T9 V) (λ_=>(T9 V->AO)->AO) (λ_ _ _ c _ g k=>g c k) t g k
def UG(g:T9 V->AO)(t:N5 V (T9 V))(k:V->AA):AA:=@N5.rec V (T9 V) (λ_=>(T9 V->AO)->AO) (λ_ _ _ _ d g k=>g d k) t g k
def aOI:QN Q9->N5 V (T9 V)->AO:=@QN.rec Q9 (λ_=>N5 V (T9 V)->AO) XZ (λq=>UJ (QQ q)) (λq=>UI (QQ q)) (λq=>UH (QQ q)) (λq=>UG (QQ q))
abbrev Ro:=V->N5 V (T9 V)->(N5 V (T9 V)->AA)->AA
def X1(v:V)(t:N5 V (T9 V))(k:N5 V (T9 V)->AA):AA:=@N5.rec V (T9 V) (λ_=>V->(N5 V (T9 V)->AA)->AA) (λ_ a b c d v k=>k (.mk v a b c d)) t v k
def UD(p:It)(v:V)(t:N5 V (T9 V))(k:N5 V (T9 V)->AA):AA:=@N5.rec V (T9 V) (λ_=>It->V->(N5 V (T9 V)->AA)->AA) (λu a b c d p v k=>p v a λx=>k (.mk u x b c d)) t p v k
def UC(p:It)(v:V)(t:N5 V (T9 V))(k:N5 V (T9 V)->AA):AA:=@N5.rec V (T9 V) (λ_=>It->V->(N5 V (T9 V)->AA)->AA) (λu a b c d p v k=>p v b λx=>k (.mk u a x c d)) t p v k
def UB(p:It)(v:V)(t:N5 V (T9 V))(k:N5 V (T9 V)->AA):AA:=@N5.rec V (T9 V) (λ_=>It->V->(N5 V (T9 V)->AA)->AA) (λu a b c d p v k=>p v c λx=>k (.mk u a b x d)) t p v k
def UA(p:It)(v:V)(t:N5 V (T9 V))(k:N5 V (T9 V)->AA):AA:=@N5.rec V (T9 V) (λ_=>It->V->(N5 V (T9 V)->AA)->AA) (λu a b c d p v k=>p v d λx=>k (.mk u a b c x)) t p v k
def aOA:QN Q9->Ro:=@QN.rec Q9 (λ_=>Ro) X1 (λq=>UD (Qk q)) (λq=>UC (Qk q)) (λq=>UB (Qk q)) (λq=>UA (Qk q))
def eo1:T1 O->AV:=@N5.rec O (TQ O) (λ_=>AV) (λv _ _ _ _ k=>k v)
def aS3(g:TQ O->AV)(t:T1 O)(k:O->AA):AA:=@N5.rec O (TQ O) (λ_=>(TQ O->AV)->AV) (λ_ a _ _ _ g k=>g a k) t g k
def aS4(g:TQ O->AV)(t:T1 O)(k:O->AA):AA:=@N5.rec O (TQ O) (λ_=>(TQ O->AV)->AV) (λ_ _ b _ _ g k=>g b k) t g k
def aS5(g:TQ O->AV)(t:T1 O)(k:O->AA):AA:=@N5.rec O (TQ O) (λ_=>(TQ O->AV)->AV) (λ_ _ _ c _ g k=>g c k) t g k
def aS6(g:TQ O->AV)(t:T1 O)(k:O->AA):AA:=@N5.rec O (TQ O) (λ_=>(TQ O->AV)->AV) (λ_ _ _ _ d g k=>g d k) t g k
def Qi(q:QR)(t:TQ O)(k:O->AA):AA:=k (t.get Dft.z q)
def Qh:QN QR->T1 O->AV:=@QN.rec QR (λ_=>T1 O->AV) eo1 (λq=>aS3 (Qi q)) (λq=>aS4 (Qi q)) (λq=>aS5 (Qi q)) (λq=>aS6 (Qi q))
abbrev Kj:=O->T1 O->(T1 O->AA)->AA
def no1(v:O)(t:T1 O)(k:T1 O->AA):AA:=@N5.rec O (TQ O) (λ_=>O->(T1 O->AA)->AA) (λ_ a b c d v k=>k (.mk v a b c d)) t v k
abbrev M1:=O->TQ O->(TQ O->AA)->AA
def RD(q:QR)(v:O)(t:TQ O)(k:TQ O->AA):AA:=k (t.put Dft.z v q)
def aRY(p:M1)(v:O)(t:T1 O)(k:T1 O->AA):AA:=@N5.rec O (TQ O) (λ_=>M1->O->(T1 O->AA)->AA) (λu a b c d p v k=>p v a λx=>k (.mk u x b c d)) t p v k
def aRZ(p:M1)(v:O)(t:T1 O)(k:T1 O->AA):AA:=@N5.rec O (TQ O) (λ_=>M1->O->(T1 O->AA)->AA) (λu a b c d p v k=>p v b λx=>k (.mk u a x c d)) t p v k
def aR0(p:M1)(v:O)(t:T1 O)(k:T1 O->AA):AA:=@N5.rec O (TQ O) (λ_=>M1->O->(T1 O->AA)->AA) (λu a b c d p v k=>p v c λx=>k (.mk u a b x d)) t p v k
def aR1(p:M1)(v:O)(t:T1 O)(k:T1 O->AA):AA:=@N5.rec O (TQ O) (λ_=>M1->O->(T1 O->AA)->AA) (λu a b c d p v k=>p v d λx=>k (.mk u a b c x)) t p v k
def RC:QN QR->Kj:=@QN.rec QR (λ_=>Kj) no1 (λq=>aRY (RD q)) (λq=>aRZ (RD q)) (λq=>aR0 (RD q)) (λq=>aR1 (RD q))
def eo2:T2 O->AV:=@N5.rec O (T1 O) (λ_=>AV) (λv _ _ _ _ k=>k v)
def aS7(g:T1 O->AV)(t:T2 O)(k:O->AA):AA:=@N5.rec O (T1 O) (λ_=>(T1 O->AV)->AV) (λ_ a _ _ _ g k=>g a k) t g k
def aS8(g:T1 O->AV)(t:T2 O)(k:O->AA):AA:=@N5.rec O (T1 O) (λ_=>(T1 O->AV)->AV) (λ_ _ b _ _ g k=>g b k) t g k
def aS9(g:T1 O->AV)(t:T2 O)(k:O->AA):AA:=@N5.rec O (T1 O) (λ_=>(T1 O->AV)->AV) (λ_ _ _ c _ g k=>g c k) t g k
def aTa(g:T1 O->AV)(t:T2 O)(k:O->AA):AA:=@N5.rec O (T1 O) (λ_=>(T1 O->AV)->AV) (λ_ _ _ _ d g k=>g d k) t g k
def go2:QN Q1->T2 O->AV:=@QN.rec Q1 (λ_=>T2 O->AV) eo2 (λq=>aS7 (Qh q)) (λq=>aS8 (Qh q)) (λq=>aS9 (Qh q)) (λq=>aTa (Qh q))
abbrev Ki:=O->T2 O->(T2 O->AA)->AA
def no2(v:O)(t:T2 O)(k:T2 O->AA):AA:=@N5.rec O (T1 O) (λ_=>O->(T2 O->AA)->AA) (λ_ a b c d v k=>k (.mk v a b c d)) t v k
def aR2(p:Kj)(v:O)(t:T2 O)(k:T2 O->AA):AA:=@N5.rec O (T1 O) (λ_=>Kj->O->(T2 O->AA)->AA) (λu a b c d p v k=>p v a λx=>k (.mk u x b c d)) t p v k
def aR3(p:Kj)(v:O)(t:T2 O)(k:T2 O->AA):AA:=@N5.rec O (T1 O) (λ_=>Kj->O->(T2 O->AA)->AA) (λu a b c d p v k=>p v b λx=>k (.mk u a x c d)) t p v k
def aR4(p:Kj)(v:O)(t:T2 O)(k:T2 O->AA):AA:=@N5.rec O (T1 O) (λ_=>Kj->O->(T2 O->AA)->AA) (λu a b c d p v k=>p v c λx=>k (.mk u a b x d)) t p v k
def aR5(p:Kj)(v:O)(t:T2 O)(k:T2 O->AA):AA:=@N5.rec O (T1 O) (λ_=>Kj->O->(T2 O->AA)->AA) (λu a b c d p v k=>p v d λx=>k (.mk u a b c x)) t p v k
def RB:QN Q1->Ki:=@QN.rec Q1 (λ_=>Ki) no2 (λq=>aR2 (RC q)) (λq=>aR3 (RC q)) (λq=>aR4 (RC q)) (λq=>aR5 (RC q))
def eo3:T3 O->AV:=@N5.rec O (T2 O) (λ_=>AV) (λv _ _ _ _ k=>k v)
def aTb(g:T2 O->AV)(t:T3 O)(k:O->AA):AA:=@N5.rec O (T2 O) (λ_=>(T2 O->AV)->AV) (λ_ a _ _ _ g k=>g a k) t g k
def aTc(g:T2 O->AV)(t:T3 O)(k:O->AA):AA:=@N5.rec O (T2 O) (λ_=>(T2 O->AV)->AV) (λ_ _ b _ _ g k=>g b k) t g k
def aTd(g:T2 O->AV)(t:T3 O)(k:O->AA):AA:=@N5.rec O (T2 O) (λ_=>(T2 O->AV)->AV) (λ_ _ _ c _ g k=>g c k) t g k
def aTe(g:T2 O->AV)(t:T3 O)(k:O->AA):AA:=@N5.rec O (T2 O) (λ_=>(T2 O->AV)->AV) (λ_ _ _ _ d g k=>g d k) t g k
def Qg:QN Q2->T3 O->AV:=@QN.rec Q2 (λ_=>T3 O->AV) eo3 (λq=>aTb (go2 q)) (λq=>aTc (go2 q)) (λq=>aTd (go2 q)) (λq=>aTe (go2 q))
abbrev Kh:=O->T3 O->(T3 O->AA)->AA
def no3(v:O)(t:T3 O)(k:T3 O->AA):AA:=@N5.rec O (T2 O) (λ_=>O->(T3 O->AA)->AA) (λ_ a b c d v k=>k (.mk v a b c d)) t v k
def aR6(p:Ki)(v:O)(t:T3 O)(k:T3 O->AA):AA:=@N5.rec O (T2 O) (λ_=>Ki->O->(T3 O->AA)->AA) (λu a b c d p v k=>p v a λx=>k (.mk u x b c d)) t p v k
def aR7(p:Ki)(v:O)(t:T3 O)(k:T3 O->AA):AA:=@N5.rec O (T2 O) (λ_=>Ki->O->(T3 O->AA)->AA) (λu a b c d p v k=>p v b λx=>k (.mk u a x c d)) t p v k
def aR8(p:Ki)(v:O)(t:T3 O)(k:T3 O->AA):AA:=@N5.rec O (T2 O) (λ_=>Ki->O->(T3 O->AA)->AA) (λu a b c d p v k=>p v c λx=>k (.mk u a b x d)) t p v k
def aR9(p:Ki)(v:O)(t:T3 O)(k:T3 O->AA):AA:=@N5.rec O (T2 O) (λ_=>Ki->O->(T3 O->AA)->AA) (λu a b c d p v k=>p v d λx=>k (.mk u a b c x)) t p v k
def RA:QN Q2->Kh:=@QN.rec Q2 (λ_=>Kh) no3 (λq=>aR6 (RB q)) (λq=>aR7 (RB q)) (λq=>aR8 (RB q)) (λq=>aR9 (RB q))
def eo4:T4 O->AV:=@N5.rec O (T3 O) (λ_=>AV) (λv _ _ _ _ k=>k v)
def aTf(g:T3 O->AV)(t:T4 O)(k:O->AA):AA:=@N5.rec O (T3 O) (λ_=>(T3 O->AV)->AV) (λ_ a _ _ _ g k=>g a k) t g k
def aTg(g:T3 O->AV)(t:T4 O)(k:O->AA):AA:=@N5.rec O (T3 O) (λ_=>(T3 O->AV)->AV) (λ_ _ b _ _ g k=>g b k) t g k
def aTh(g:T3 O->AV)(t:T4 O)(k:O->AA):AA:=@N5.rec O (T3 O) (λ_=>(T3 O->AV)->AV) (λ_ _ _ c _ g k=>g c k) t g k
def aTi(g:T3 O->AV)(t:T4 O)(k:O->AA):AA:=@N5.rec O (T3 O) (λ_=>(T3 O->AV)->AV) (λ_ _ _ _ d g k=>g d k) t g k
def Qf:QN Q3->T4 O->AV:=@QN.rec Q3 (λ_=>T4 O->AV) eo4 (λq=>aTf (Qg q)) (λq=>aTg (Qg q)) (λq=>aTh (Qg q)) (λq=>aTi (Qg q))
abbrev Kg:=O->T4 O->(T4 O->AA)->AA
def no4(v:O)(t:T4 O)(k:T4 O->AA):AA:=@N5.rec O (T3 O) (λ_=>O->(T4 O->AA)->AA) (λ_ a b c d v k=>k (.mk v a b c d)) t v k
def aSa(p:Kh)(v:O)(t:T4 O)(k:T4 O->AA):AA:=@N5.rec O (T3 O) (λ_=>Kh->O->(T4 O->AA)->AA) (λu a b c d p v k=>p v a λx=>k (.mk u x b c d)) t p v k
def aSb(p:Kh)(v:O)(t:T4 O)(k:T4 O->AA):AA:=@N5.rec O (T3 O) (λ_=>Kh->O->(T4 O->AA)->AA) (λu a b c d p v k=>p v b λx=>k (.mk u a x c d)) t p v k
def aSc(p:Kh)(v:O)(t:T4 O)(k:T4 O->AA):AA:=@N5.rec O (T3 O) (λ_=>Kh->O->(T4 O->AA)->AA) (λu a b c d p v k=>p v c λx=>k (.mk u a b x d)) t p v k
def aSd(p:Kh)(v:O)(t:T4 O)(k:T4 O->AA):AA:=@N5.rec O (T3 O) (λ_=>Kh->O->(T4 O->AA)->AA) (λu a b c d p v k=>p v d λx=>k (.mk u a b c x)) t p v k
def Qz:QN Q3->Kg:=@QN.rec Q3 (λ_=>Kg) no4 (λq=>aSa (RA q)) (λq=>aSb (RA q)) (λq=>aSc (RA q)) (λq=>aSd (RA q))
def eo5:T5 O->AV:=@N5.rec O (T4 O) (λ_=>AV) (λv _ _ _ _ k=>k v)
def aTj(g:T4 O->AV)(t:T5 O)(k:O->AA):AA:=@N5.rec O (T4 O) (λ_=>(T4 O->AV)->AV) (λ_ a _ _ _ g k=>g a k) t g k
def aTk(g:T4 O->AV)(t:T5 O)(k:O->AA):AA:=@N5.rec O (T4 O) (λ_=>(T4 O->AV)->AV) (λ_ _ b _ _ g k=>g b k) t g k
def aTl(g:T4 O->AV)(t:T5 O)(k:O->AA):AA:=@N5.rec O (T4 O) (λ_=>(T4 O->AV)->AV) (λ_ _ _ c _ g k=>g c k) t g k
def aTm(g:T4 O->AV)(t:T5 O)(k:O->AA):AA:=@N5.rec O (T4 O) (λ_=>(T4 O->AV)->AV) (λ_ _ _ _ d g k=>g d k) t g k
def Qe:QN Q4->T5 O->AV:=@QN.rec Q4 (λ_=>T5 O->AV) eo5 (λq=>aTj (Qf q)) (λq=>aTk (Qf q)) (λq=>aTl (Qf q)) (λq=>aTm (Qf q))
abbrev Kf:=O->T5 O->(T5 O->AA)->AA
def no5(v:O)(t:T5 O)(k:T5 O->AA):AA:=@N5.rec O (T4 O) (λ_=>O->(T5 O->AA)->AA) (λ_ a b c d v k=>k (.mk v a b c d)) t v k
def aSe(p:Kg)(v:O)(t:T5 O)(k:T5 O->AA):AA:=@N5.rec O (T4 O) (λ_=>Kg->O->(T5 O->AA)->AA) (λu a b c d p v k=>p v a λx=>k (.mk u x b c d)) t p v k
def aSf(p:Kg)(v:O)(t:T5 O)(k:T5 O->AA):AA:=@N5.rec O (T4 O) (λ_=>Kg->O->(T5 O->AA)->AA) (λu a b c d p v k=>p v b λx=>k (.mk u a x c d)) t p v k
def aSg(p:Kg)(v:O)(t:T5 O)(k:T5 O->AA):AA:=@N5.rec O (T4 O) (λ_=>Kg->O->(T5 O->AA)->AA) (λu a b c d p v k=>p v c λx=>k (.mk u a b x d)) t p v k
def aSh(p:Kg)(v:O)(t:T5 O)(k:T5 O->AA):AA:=@N5.rec O (T4 O) (λ_=>Kg->O->(T5 O->AA)->AA) (λu a b c d p v k=>p v d λx=>k (.mk u a b c x)) t p v k
def Qy:QN Q4->Kf:=@QN.rec Q4 (λ_=>Kf) no5 (λq=>aSe (Qz q)) (λq=>aSf (Qz q)) (λq=>aSg (Qz q)) (λq=>aSh (Qz q))
def eo6:T6 O->AV:=@N5.rec O (T5 O) (λ_=>AV) (λv _ _ _ _ k=>k v)
def aTn(g:T5 O->AV)(t:T6 O)(k:O->AA):AA:=@N5.rec O (T5 O) (λ_=>(T5 O->AV)->AV) (λ_ a _ _ _ g k=>g a k) t g k
def aTo(g:T5 O->AV)(t:T6 O)(k:O->AA):AA:=@N5.rec O (T5 O) (λ_=>(T5 O->AV)->AV) (λ_ _ b _ _ g k=>g b k) t g k
def aTp(g:T5 O->AV)(t:T6 O)(k:O->AA):AA:=@N5.rec O (T5 O) (λ_=>(T5 O->AV)->AV) (λ_ _ _ c _ g k=>g c k) t g k
def aTq(g:T5 O->AV)(t:T6 O)(k:O->AA):AA:=@N5.rec O (T5 O) (λ_=>(T5 O->AV)->AV) (λ_ _ _ _ d g k=>g d k) t g k
def Qd:QN Q5->T6 O->AV:=@QN.rec Q5 (λ_=>T6 O->AV) eo6 (λq=>aTn (Qe q)) (λq=>aTo (Qe q)) (λq=>aTp (Qe q)) (λq=>aTq (Qe q))
abbrev Kd:=O->T6 O->(T6 O->AA)->AA
def no6(v:O)(t:T6 O)(k:T6 O->AA):AA:=@N5.rec O (T5 O) (λ_=>O->(T6 O->AA)->AA) (λ_ a b c d v k=>k (.mk v a b c d)) t v k
def aSi(p:Kf)(v:O)(t:T6 O)(k:T6 O->AA):AA:=@N5.rec O (T5 O) (λ_=>Kf->O->(T6 O->AA)->AA) (λu a b c d p v k=>p v a λx=>k (.mk u x b c d)) t p v k
def aSj(p:Kf)(v:O)(t:T6 O)(k:T6 O->AA):AA:=@N5.rec O (T5 O) (λ_=>Kf->O->(T6 O->AA)->AA) (λu a b c d p v k=>p v b λx=>k (.mk u a x c d)) t p v k
def aSk(p:Kf)(v:O)(t:T6 O)(k:T6 O->AA):AA:=@N5.rec O (T5 O) (λ_=>Kf->O->(T6 O->AA)->AA) (λu a b c d p v k=>p v c λx=>k (.mk u a b x d)) t p v k
def aSl(p:Kf)(v:O)(t:T6 O)(k:T6 O->AA):AA:=@N5.rec O (T5 O) (λ_=>Kf->O->(T6 O->AA)->AA) (λu a b c d p v k=>p v d λx=>k (.mk u a b c x)) t p v k
def Qx:QN Q5->Kd:=@QN.rec Q5 (λ_=>Kd) no6 (λq=>aSi (Qy q)) (λq=>aSj (Qy q)) (λq=>aSk (Qy q)) (λq=>aSl (Qy q))
def eo7:T7 O->AV:=@N5.rec O (T6 O) (λ_=>AV) (λv _ _ _ _ k=>k v)
def aTr(g:T6 O->AV)(t:T7 O)(k:O->AA):AA:=@N5.rec O (T6 O) (λ_=>(T6 O->AV)->AV) (λ_ a _ _ _ g k=>g a k) t g k
def aTs(g:T6 O->AV)(t:T7 O)(k:O->AA):AA:=@N5.rec O (T6 O) (λ_=>(T6 O->AV)->AV) (λ_ _ b _ _ g k=>g b k) t g k
def aTt(g:T6 O->AV)(t:T7 O)(k:O->AA):AA:=@N5.rec O (T6 O) (λ_=>(T6 O->AV)->AV) (λ_ _ _ c _ g k=>g c k) t g k
def aTu(g:T6 O->AV)(t:T7 O)(k:O->AA):AA:=@N5.rec O (T6 O) (λ_=>(T6 O->AV)->AV) (λ_ _ _ _ d g k=>g d k) t g k
def Qc:QN Q6->T7 O->AV:=@QN.rec Q6 (λ_=>T7 O->AV) eo7 (λq=>aTr (Qd q)) (λq=>aTs (Qd q)) (λq=>aTt (Qd q)) (λq=>aTu (Qd q))
abbrev Kc:=O->T7 O->(T7 O->AA)->AA
def no7(v:O)(t:T7 O)(k:T7 O->AA):AA:=@N5.rec O (T6 O) (λ_=>O->(T7 O->AA)->AA) (λ_ a b c d v k=>k (.mk v a b c d)) t v k
def aSm(p:Kd)(v:O)(t:T7 O)(k:T7 O->AA):AA:=@N5.rec O (T6 O) (λ_=>Kd->O->(T7 O->AA)->AA) (λu a b c d p v k=>p v a λx=>k (.mk u x b c d)) t p v k
def aSn(p:Kd)(v:O)(t:T7 O)(k:T7 O->AA):AA:=@N5.rec O (T6 O) (λ_=>Kd->O->(T7 O->AA)->AA) (λu a b c d p v k=>p v b λx=>k (.mk u a x c d)) t p v k
def aSo(p:Kd)(v:O)(t:T7 O)(k:T7 O->AA):AA:=@N5.rec O (T6 O) (λ_=>Kd->O->(T7 O->AA)->AA) (λu a b c d p v k=>p v c λx=>k (.mk u a b x d)) t p v k
def aSp(p:Kd)(v:O)(t:T7 O)(k:T7 O->AA):AA:=@N5.rec O (T6 O) (λ_=>Kd->O->(T7 O->AA)->AA) (λu a b c d p v k=>p v d λx=>k (.mk u a b c x)) t p v k
def Qw:QN Q6->Kc:=@QN.rec Q6 (λ_=>Kc) no7 (λq=>aSm (Qx q)) (λq=>aSn (Qx q)) (λq=>aSo (Qx q)) (λq=>aSp (Qx q))
def eo8:T8 O->AV:=@N5.rec O (T7 O) (λ_=>AV) (λv _ _ _ _ k=>k v)
def aTv(g:T7 O->AV)(t:T8 O)(k:O->AA):AA:=@N5.rec O (T7 O) (λ_=>(T7 O->AV)->AV) (λ_ a _ _ _ g k=>g a k) t g k
def aTw(g:T7 O->AV)(t:T8 O)(k:O->AA):AA:=@N5.rec O (T7 O) (λ_=>(T7 O->AV)->AV) (λ_ _ b _ _ g k=>g b k) t g k
def aTx(g:T7 O->AV)(t:T8 O)(k:O->AA):AA:=@N5.rec O (T7 O) (λ_=>(T7 O->AV)->AV) (λ_ _ _ c _ g k=>g c k) t g k
def aTy(g:T7 O->AV)(t:T8 O)(k:O->AA):AA:=@N5.rec O (T7 O) (λ_=>(T7 O->AV)->AV) (λ_ _ _ _ d g k=>g d k) t g k
def Qb:QN Q7->T8 O->AV:=@QN.rec Q7 (λ_=>T8 O->AV) eo8 (λq=>aTv (Qc q)) (λq=>aTw (Qc q)) (λq=>aTx (Qc q)) (λq=>aTy (Qc q))
abbrev Kb:=O->T8 O->(T8 O->AA)->AA
def no8(v:O)(t:T8 O)(k:T8 O->AA):AA:=@N5.rec O (T7 O) (λ_=>O->(T8 O->AA)->AA) (λ_ a b c d v k=>k (.mk v a b c d)) t v k
def aSq(p:Kc)(v:O)(t:T8 O)(k:T8 O->AA):AA:=@N5.rec O (T7 O) (λ_=>Kc->O->(T8 O->AA)->AA) (λu a b c d p v k=>p v a λx=>k (.mk u x b c d)) t p v k
def aSr(p:Kc)(v:O)(t:T8 O)(k:T8 O->AA):AA:=@N5.rec O (T7 O) (λ_=>Kc->O->(T8 O->AA)->AA) (λu a b c d p v k=>p v b λx=>k (.mk u a x c d)) t p v k
def aSs(p:Kc)(v:O)(t:T8 O)(k:T8 O->AA):AA:=@N5.rec O (T7 O) (λ_=>Kc->O->(T8 O->AA)->AA) (λu a b c d p v k=>p v c λx=>k (.mk u a b x d)) t p v k
def aSt(p:Kc)(v:O)(t:T8 O)(k:T8 O->AA):AA:=@N5.rec O (T7 O) (λ_=>Kc->O->(T8 O->AA)->AA) (λu a b c d p v k=>p v d λx=>k (.mk u a b c x)) t p v k
def Qv:QN Q7->Kb:=@QN.rec Q7 (λ_=>Kb) no8 (λq=>aSq (Qw q)) (λq=>aSr (Qw q)) (λq=>aSs (Qw q)) (λq=>aSt (Qw q))
def eo9:T9 O->AV:=@N5.rec O (T8 O) (λ_=>AV) (λv _ _ _ _ k=>k v)
def aTz(g:T8 O->AV)(t:T9 O)(k:O->AA):AA:=@N5.rec O (T8 O) (λ_=>(T8 O->AV)->AV) (λ_ a _ _ _ g k=>g a k) t g k
def aTA(g:T8 O->AV)(t:T9 O)(k:O->AA):AA:=@N5.rec O (T8 O) (λ_=>(T8 O->AV)->AV) (λ_ _ b _ _ g k=>g b k) t g k
def aTB(g:T8 O->AV)(t:T9 O)(k:O->AA):AA:=@N5.rec O (T8 O) (λ_=>(T8 O->AV)->AV) (λ_ _ _ c _ g k=>g c k) t g k
def aTC(g:T8 O->AV)(t:T9 O)(k:O->AA):AA:=@N5.rec O (T8 O) (λ_=>(T8 O->AV)->AV) (λ_ _ _ _ d g k=>g d k) t g k
def Qa:QN Q8->T9 O->AV:=@QN.rec Q8 (λ_=>T9 O->AV) eo9 (λq=>aTz (Qb q)) (λq=>aTA (Qb q)) (λq=>aTB (Qb q)) (λq=>aTC (Qb q))
abbrev Ka:=O->T9 O->(T9 O->AA)->AA
def no9(v:O)(t:T9 O)(k:T9 O->AA):AA:=@N5.rec O (T8 O) (λ_=>O->(T9 O->AA)->AA) (λ_ a b c d v k=>k (.mk v a b c d)) t v k
def aSu(p:Kb)(v:O)(t:T9 O)(k:T9 O->AA):AA:=@N5.rec O (T8 O) (λ_=>Kb->O->(T9 O->AA)->AA) (λu a b c d p v k=>p v a λx=>k (.mk u x b c d)) t p v k
def aSv(p:Kb)(v:O)(t:T9 O)(k:T9 O->AA):AA:=@N5.rec O (T8 O) (λ_=>Kb->O->(T9 O->AA)->AA) (λu a b c d p v k=>p v b λx=>k (.mk u a x c d)) t p v k
def aSw(p:Kb)(v:O)(t:T9 O)(k:T9 O->AA):AA:=@N5.rec O (T8 O) (λ_=>Kb->O->(T9 O->AA)->AA) (λu a b c d p v k=>p v c λx=>k (.mk u a b x d)) t p v k
def aSx(p:Kb)(v:O)(t:T9 O)(k:T9 O->AA):AA:=@N5.rec O (T8 O) (λ_=>Kb->O->(T9 O->AA)->AA) (λu a b c d p v k=>p v d λx=>k (.mk u a b c x)) t p v k
def Qu:QN Q8->Ka:=@QN.rec Q8 (λ_=>Ka) no9 (λq=>aSu (Qv q)) (λq=>aSv (Qv q)) (λq=>aSw (Qv q)) (λq=>aSx (Qv q))
def aRb:N5 O (T9 O)->AV:=@N5.rec O (T9 O) (λ_=>AV) (λv _ _ _ _ k=>k v)
def aPZ(g:T9 O->AV)(t:N5 O (T9 O))(k:O->AA):AA:=@N5.rec O (T9 O) (λ_=>(T9 O->AV)->AV) (λ_ a _ _ _ g k=>g a k) t g k
def aP0(g:T9 O->AV)(t:N5 O (T9 O))(k:O->AA):AA:=@N5.rec O (T9 O) (λ_=>(T9 O->AV)->AV) (λ_ _ b _ _ g k=>g b k) t g k
def aP1(g:T9 O->AV)(t:N5 O (T9 O))(k:O->AA):AA:=@N5.rec O (T9 O) (λ_=>(T9 O->AV)->AV) (λ_ _ _ c _ g k=>g c k) t g k
def aP2(g:T9 O->AV)(t:N5 O (T9 O))(k:O->AA):AA:=@N5.rec O (T9 O) (λ_=>(T9 O->AV)->AV) (λ_ _ _ _ d g k=>g d k) t g k
def aOH:QN Q9->N5 O (T9 O)->AV:=@QN.rec Q9 (λ_=>N5 O (T9 O)->AV) aRb (λq=>aPZ (Qa q)) (λq=>aP0 (Qa q)) (λq=>aP1 (Qa q)) (λq=>aP2 (Qa q))
abbrev aNk:=O->N5 O (T9 O)->(N5 O (T9 O)->AA)->AA
def aRp(v:O)(t:N5 O (T9 O))(k:N5 O (T9 O)->AA):AA:=@N5.rec O (T9 O) (λ_=>O->(N5 O (T9 O)->AA)->AA) (λ_ a b c d v k=>k (.mk v a b c d)) t v k
def aPK(p:Ka)(v:O)(t:N5 O (T9 O))(k:N5 O (T9 O)->AA):AA:=@N5.rec O (T9 O) (λ_=>Ka->O->(N5 O (T9 O)->AA)->AA) (λu a b c d p v k=>p v a λx=>k (.mk u x b c d)) t p v k
def aPL(p:Ka)(v:O)(t:N5 O (T9 O))(k:N5 O (T9 O)->AA):AA:=@N5.rec O (T9 O) (λ_=>Ka->O->(N5 O (T9 O)->AA)->AA) (λu a b c d p v k=>p v b λx=>k (.mk u a x c d)) t p v k
def aPM(p:Ka)(v:O)(t:N5 O (T9 O))(k:N5 O (T9 O)->AA):AA:=@N5.rec O (T9 O) (λ_=>Ka->O->(N5 O (T9 O)->AA)->AA) (λu a b c d p v k=>p v c λx=>k (.mk u a b x d)) t p v k
def aPN(p:Ka)(v:O)(t:N5 O (T9 O))(k:N5 O (T9 O)->AA):AA:=@N5.rec O (T9 O) (λ_=>Ka->O->(N5 O (T9 O)->AA)->AA) (λu a b c d p v k=>p v d λx=>k (.mk u a b c x)) t p v k
def aOy:QN Q9->aNk:=@QN.rec Q9 (λ_=>aNk) aRp (λq=>aPK (Qu q)) (λq=>aPL (Qu q)) (λq=>aPM (Qu q)) (λq=>aPN (Qu q))
def Zo(q:QR)(k:QR->AA):AA:=k q.succ
def Rk(p q:QR):Bool:=p.beq q
def Zn:QN QR->(QN QR->AA)->AA:=@QN.rec QR (λ_=>(QN QR->AA)->AA) (λk=>k (.a QR.e)) (λq k=>k (.b q)) (λq k=>k (.c q)) (λq k=>k (.d q)) (λq k=>Zo q λp=>k (.a p))
def Rj:QN QR->QN QR->Bool:=@QN.rec QR (λ_=>QN QR->Bool) (λp=>@QN.rec QR (λ_=>Bool) true (λ_=>false) (λ_=>false) (λ_=>false) (λ_=>false) p) (λq p=>@QN.rec QR (λ_=>QR->Bool) (λ_=>false) (λp q=>Rk q p) (λ_ _=>false) (λ_ _=>false) (λ_ _=>false) p q) (λq p=>@QN.rec QR (λ_=>QR->Bool) (λ_=>false) (λ_ _=>false) (λp q=>Rk q p) (λ_ _=>false) (λ_ _=>false) p q) (λq p=>@QN.rec QR (λ_=>QR->Bool) (λ_=>false) (λ_ _=>false) (λ_ _=>false) (λp q=>Rk q p) (λ_ _=>false) p q) (λq p=>@QN.rec QR (λ_=>QR->Bool) (λ_=>false) (λ_ _=>false) (λ_ _=>false) (λ_ _=>false) (λp q=>Rk q p) p q)
def Zm:QN Q1->(QN Q1->AA)->AA:=@QN.rec Q1 (λ_=>(QN Q1->AA)->AA) (λk=>k (.a (QN.e (α:=QR)))) (λq k=>k (.b q)) (λq k=>k (.c q)) (λq k=>k (.d q)) (λq k=>Zn q λp=>k (.a p))
def Ri:QN Q1->QN Q1->Bool:=@QN.rec Q1 (λ_=>QN Q1->Bool) (λp=>@QN.rec Q1 (λ_=>Bool) true (λ_=>false) (λ_=>false) (λ_=>false) (λ_=>false) p) (λq p=>@QN.rec Q1 (λ_=>Q1->Bool) (λ_=>false) (λp q=>Rj q p) (λ_ _=>false) (λ_ _=>false) (λ_ _=>false) p q) (λq p=>@QN.rec Q1 (λ_=>Q1->Bool) (λ_=>false) (λ_ _=>false) (λp q=>Rj q p) (λ_ _=>false) (λ_ _=>false) p q) (λq p=>@QN.rec Q1 (λ_=>Q1->Bool) (λ_=>false) (λ_ _=>false) (λ_ _=>false) (λp q=>Rj q p) (λ_ _=>false) p q) (λq p=>@QN.rec Q1 (λ_=>Q1->Bool) (λ_=>false) (λ_ _=>false) (λ_ _=>false) (λ_ _=>false) (λp q=>Rj q p) p q)
def Zl:QN Q2->(QN Q2->AA)->AA:=@QN.rec Q2 (λ_=>(QN Q2->AA)->AA) (λk=>k (.a (QN.e (α:=Q1)))) (λq k=>k (.b q)) (λq k=>k (.c q)) (λq k=>k (.d q)) (λq k=>Zm q λp=>k (.a p))
def Rh:QN Q2->QN Q2->Bool:=@QN.rec Q2 (λ_=>QN Q2->Bool) (λp=>@QN.rec Q2 (λ_=>Bool) true (λ_=>false) (λ_=>false) (λ_=>false) (λ_=>false) p) (λq p=>@QN.rec Q2 (λ_=>Q2->Bool) (λ_=>false) (λp q=>Ri q p) (λ_ _=>false) (λ_ _=>false) (λ_ _=>false) p q) (λq p=>@QN.rec Q2 (λ_=>Q2->Bool) (λ_=>false) (λ_ _=>false) (λp q=>Ri q p) (λ_ _=>false) (λ_ _=>false) p q) (λq p=>@QN.rec Q2 (λ_=>Q2->Bool) (λ_=>false) (λ_ _=>false) (λ_ _=>false) (λp q=>Ri q p) (λ_ _=>false) p q) (λq p=>@QN.rec Q2 (λ_=>Q2->Bool) (λ_=>false) (λ_ _=>false) (λ_ _=>false) (λ_ _=>false) (λp q=>Ri q p) p q)
def Zk:QN Q3->(QN Q3->AA)->AA:=@QN.rec Q3 (λ_=>(QN Q3->AA)->AA) (λk=>k (.a (QN.e (α:=Q2)))) (λq k=>k (.b q)) (λq k=>k (.c q)) (λq k=>k (.d q)) (λq k=>Zl q λp=>k (.a p))
def Rg:QN Q3->QN Q3->Bool:=@QN.rec Q3 (λ_=>QN Q3->Bool) (λp=>@QN.rec Q3 (λ_=>Bool) true (λ_=>false) (λ_=>false) (λ_=>false) (λ_=>false) p) (λq p=>@QN.rec Q3 (λ_=>Q3->Bool) (λ_=>false) (λp q=>Rh q p) (λ_ _=>false) (λ_ _=>false) (λ_ _=>false) p q) (λq p=>@QN.rec Q3 (λ_=>Q3->Bool) (λ_=>false) (λ_ _=>false) (λp q=>Rh q p) (λ_ _=>false) (λ_ _=>false) p q) (λq p=>@QN.rec Q3 (λ_=>Q3->Bool) (λ_=>false) (λ_ _=>false) (λ_ _=>false) (λp q=>Rh q p) (λ_ _=>false) p q) (λq p=>@QN.rec Q3 (λ_=>Q3->Bool) (λ_=>false) (λ_ _=>false) (λ_ _=>false) (λ_ _=>false) (λp q=>Rh q p) p q)
def Zj:QN Q4->(QN Q4->AA)->AA:=@QN.rec Q4 (λ_=>(QN Q4->AA)->AA) (λk=>k (.a (QN.e (α:=Q3)))) (λq k=>k (.b q)) (λq k=>k (.c q)) (λq k=>k (.d q)) (λq k=>Zk q λp=>k (.a p))
def Rf:QN Q4->QN Q4->Bool:=@QN.rec Q4 (λ_=>QN Q4->Bool) (λp=>@QN.rec Q4 (λ_=>Bool) true (λ_=>false) (λ_=>false) (λ_=>false) (λ_=>false) p) (λq p=>@QN.rec Q4 (λ_=>Q4->Bool) (λ_=>false) (λp q=>Rg q p) (λ_ _=>false) (λ_ _=>false) (λ_ _=>false) p q) (λq p=>@QN.rec Q4 (λ_=>Q4->Bool) (λ_=>false) (λ_ _=>false) (λp q=>Rg q p) (λ_ _=>false) (λ_ _=>false) p q) (λq p=>@QN.rec Q4 (λ_=>Q4->Bool) (λ_=>false) (λ_ _=>false) (λ_ _=>false) (λp q=>Rg q p) (λ_ _=>false) p q) (λq p=>@QN.rec Q4 (λ_=>Q4->Bool) (λ_=>false) (λ_ _=>false) (λ_ _=>false) (λ_ _=>false) (λp q=>Rg q p) p q)
def Zi:QN Q5->(QN Q5->AA)->AA:=@QN.rec Q5 (λ_=>(QN Q5->AA)->AA) (λk=>k (.a (QN.e (α:=Q4)))) (λq k=>k (.b q)) (λq k=>k (.c q)) (λq k=>k (.d q)) (λq k=>Zj q λp=>k (.a p))
def Re:QN Q5->QN Q5->Bool:=@QN.rec Q5 (λ_=>QN Q5->Bool) (λp=>@QN.rec Q5 (λ_=>Bool) true (λ_=>false) (λ_=>false) (λ_=>false) (λ_=>false) p) (λq p=>@QN.rec Q5 (λ_=>Q5->Bool) (λ_=>false) (λp q=>Rf q p) (λ_ _=>false) (λ_ _=>false) (λ_ _=>false) p q) (λq p=>@QN.rec Q5 (λ_=>Q5->Bool) (λ_=>false) (λ_ _=>false) (λp q=>Rf q p) (λ_ _=>false) (λ_ _=>false) p q) (λq p=>@QN.rec Q5 (λ_=>Q5->Bool) (λ_=>false) (λ_ _=>false) (λ_ _=>false) (λp q=>Rf q p) (λ_ _=>false) p q) (λq p=>@QN.rec Q5 (λ_=>Q5->Bool) (λ_=>false) (λ_ _=>false) (λ_ _=>false) (λ_ _=>false) (λp q=>Rf q p) p q)
def Zh:QN Q6->(QN Q6->AA)->AA:=@QN.rec Q6 (λ_=>(QN Q6->AA)->AA) (λk=>k (.a (QN.e (α:=Q5)))) (λq k=>k (.b q)) (λq k=>k (.c q)) (λq k=>k (.d q)) (λq k=>Zi q λp=>k (.a p))
def Rc:QN Q6->QN Q6->Bool:=@QN.rec Q6 (λ_=>QN Q6->Bool) (λp=>@QN.rec Q6 (λ_=>Bool) true (λ_=>false) (λ_=>false) (λ_=>false) (λ_=>false) p) (λq p=>@QN.rec Q6 (λ_=>Q6->Bool) (λ_=>false) (λp q=>Re q p) (λ_ _=>false) (λ_ _=>false) (λ_ _=>false) p q) (λq p=>@QN.rec Q6 (λ_=>Q6->Bool) (λ_=>false) (λ_ _=>false) (λp q=>Re q p) (λ_ _=>false) (λ_ _=>false) p q) (λq p=>@QN.rec Q6 (λ_=>Q6->Bool) (λ_=>false) (λ_ _=>false) (λ_ _=>false) (λp q=>Re q p) (λ_ _=>false) p q) (λq p=>@QN.rec Q6 (λ_=>Q6->Bool) (λ_=>false) (λ_ _=>false) (λ_ _=>false) (λ_ _=>false) (λp q=>Re q p) p q)
def Zg:QN Q7->(QN Q7->AA)->AA:=@QN.rec Q7 (λ_=>(QN Q7->AA)->AA) (λk=>k (.a (QN.e (α:=Q6)))) (λq k=>k (.b q)) (λq k=>k (.c q)) (λq k=>k (.d q)) (λq k=>Zh q λp=>k (.a p))
def Rb:QN Q7->QN Q7->Bool:=@QN.rec Q7 (λ_=>QN Q7->Bool) (λp=>@QN.rec Q7 (λ_=>Bool) true (λ_=>false) (λ_=>false) (λ_=>false) (λ_=>false) p) (λq p=>@QN.rec Q7 (λ_=>Q7->Bool) (λ_=>false) (λp q=>Rc q p) (λ_ _=>false) (λ_ _=>false) (λ_ _=>false) p q) (λq p=>@QN.rec Q7 (λ_=>Q7->Bool) (λ_=>false) (λ_ _=>false) (λp q=>Rc q p) (λ_ _=>false) (λ_ _=>false) p q) (λq p=>@QN.rec Q7 (λ_=>Q7->Bool) (λ_=>false) (λ_ _=>false) (λ_ _=>false) (λp q=>Rc q p) (λ_ _=>false) p q) (λq p=>@QN.rec Q7 (λ_=>Q7->Bool) (λ_=>false) (λ_ _=>false) (λ_ _=>false) (λ_ _=>false) (λp q=>Rc q p) p q)
def Zf:QN Q8->(QN Q8->AA)->AA:=@QN.rec Q8 (λ_=>(QN Q8->AA)->AA) (λk=>k (.a (QN.e (α:=Q7)))) (λq k=>k (.b q)) (λq k=>k (.c q)) (λq k=>k (.d q)) (λq k=>Zg q λp=>k (.a p))
def Ra:QN Q8->QN Q8->Bool:=@QN.rec Q8 (λ_=>QN Q8->Bool) (λp=>@QN.rec Q8 (λ_=>Bool) true (λ_=>false) (λ_=>false) (λ_=>false) (λ_=>false) p) (λq p=>@QN.rec Q8 (λ_=>Q8->Bool) (λ_=>false) (λp q=>Rb q p) (λ_ _=>false) (λ_ _=>false) (λ_ _=>false) p q) (λq p=>@QN.rec Q8 (λ_=>Q8->Bool) (λ_=>false) (λ_ _=>false) (λp q=>Rb q p) (λ_ _=>false) (λ_ _=>false) p q) (λq p=>@QN.rec Q8 (λ_=>Q8->Bool) (λ_=>false) (λ_ _=>false) (λ_ _=>false) (λp q=>Rb q p) (λ_ _=>false) p q) (λq p=>@QN.rec Q8 (λ_=>Q8->Bool) (λ_=>false) (λ_ _=>false) (λ_ _=>false) (λ_ _=>false) (λp q=>Rb q p) p q)
def aPt:QN Q9->(QN Q9->AA)->AA:=@QN.rec Q9 (λ_=>(QN Q9->AA)->AA) (λk=>k (.a (QN.e (α:=Q8)))) (λq k=>k (.b q)) (λq k=>k (.c q)) (λq k=>k (.d q)) (λq k=>Zf q λp=>k (.a p))
def Yt:QN Q9->QN Q9->Bool:=@QN.rec Q9 (λ_=>QN Q9->Bool) (λp=>@QN.rec Q9 (λ_=>Bool) true (λ_=>false) (λ_=>false) (λ_=>false) (λ_=>false) p) (λq p=>@QN.rec Q9 (λ_=>Q9->Bool) (λ_=>false) (λp q=>Ra q p) (λ_ _=>false) (λ_ _=>false) (λ_ _=>false) p q) (λq p=>@QN.rec Q9 (λ_=>Q9->Bool) (λ_=>false) (λ_ _=>false) (λp q=>Ra q p) (λ_ _=>false) (λ_ _=>false) p q) (λq p=>@QN.rec Q9 (λ_=>Q9->Bool) (λ_=>false) (λ_ _=>false) (λ_ _=>false) (λp q=>Ra q p) (λ_ _=>false) p q) (λq p=>@QN.rec Q9 (λ_=>Q9->Bool) (λ_=>false) (λ_ _=>false) (λ_ _=>false) (λ_ _=>false) (λp q=>Ra q p) p q)
structure S where
 h:T O
 nx:Q
 ds:List Df
abbrev St:=T V->S->AA
abbrev Kr:=V->T O->Q->AA
abbrev Kw:=V->T O->Q->AA
abbrev Cl:=V->List V->Bool->T O->Q->Kr->AA
structure Cx where
 cl:Cl
 f:Q
 rd:Option Q
 env:List (Nat×St)
 kr:St
 ky:Kr
abbrev Xg:=T V->AO
abbrev Xs:=T V->(List V->AA)->AA
abbrev Dt:=V->T V->(T V->AA)->AA
abbrev Pg:=T V->T O->AO
abbrev Ag:=T V->(O->(Q->V)->AA)->AA
abbrev Wg:=T V->T O->Q->Kw->AA
abbrev Op:=Cx->St->St
structure D where
 run:Op
def MU(q:Q)(t:T V)(k:V->AA):AA:=aOI q t k
def F7(q:Q)(t:T O)(k:O->AA):AA:=aOH q t k
def Nc(q:Q)(v:V)(t:T V)(k:T V->AA):AA:=aOA q v t k
def ES(q:Q)(v:O)(t:T O)(k:T O->AA):AA:=aOy q v t k
def Hx(q:Q)(k:Q->AA):AA:=aPt q k
def eZ:St:=λ_ _=>.bad 200
def eV:St:=λ_ _=>.bad 4
def aJM:Kr:=λ_ _ _=>.bad 201
def fN(n:Nat)(k:Nat->AA):AA:=@Nat.rec (λ_=>(Nat->AA)->AA) (λk=>k (nat_lit 0)) (λm _ k=>k (Nat.succ m)) n k
def CV:Bool->Nat->AA->AA:=@Bool.rec (λ_=>Nat->AA->AA) (λn _=>.bad n) (λ_ k=>k)
def iN:Int->(Nat->AA)->AA:=@Int.rec (λ_=>(Nat->AA)->AA) (λm k=>k m) (λ_ _=>.bad 5)
def mb:IntKind->Nat:=@IntKind.rec (λ_=>Nat) (nat_lit 0) (nat_lit 1) (nat_lit 2) (nat_lit 3) (nat_lit 4) (nat_lit 5) (nat_lit 6) (nat_lit 7)
def aOK:IntKind->Nat:=@IntKind.rec (λ_=>Nat) (nat_lit 127) (nat_lit 32767) (nat_lit 2147483647) (nat_lit 9223372036854775807) (nat_lit 255) (nat_lit 65535) (nat_lit 4294967295) (nat_lit 18446744073709551615)
def RQ(l:Nat):Nat:=Nat.pow (nat_lit 2) (Nat.mul (nat_lit 8) l)
def mY:Bool->Bool->Bool:=@Bool.rec (λ_=>Bool->Bool) (λ_=>false) (λb=>b)
def uE:Bool->Bool:=@Bool.rec (λ_=>Bool) true false
def YQ:Bool->Bool->Bool:=@Bool.rec (λ_=>Bool->Bool) uE (λb=>b)
def IP:Bool->AA->AA->AA:=@Bool.rec (λ_=>AA->AA->AA) (λ_ b=>b) (λa _=>a)
def bF:Bool->AO:=@Bool.rec (λ_=>AO) (λk=>k (.bool false)) (λk=>k (.bool true))
def SN:Bool->Bool->AO:=@Bool.rec (λ_=>Bool->AO) bF (λt k=>bF (uE t) k)
def aJx:Bool->St->St->St:=@Bool.rec (λ_=>St->St->St) (λ_ b=>b) (λa _=>a)
def aAk(b w:Bool)(go skip:St):St:=aJx (YQ b w) go skip
def aOR:List V->St->St:=@List.rec V (λ_=>St->St) (λs=>s) (λ_ _ _ _=>eZ)
def fI:Int->(Int->AA)->AA:=@Int.rec (λ_=>(Int->AA)->AA) (λm k=>fN m λm=>k (.ofNat m)) (λm k=>fN m λm=>k (.negSucc m))
def aKd(kd:IntKind)(n:Int):Int:=kd.wrap n
def wz(kd:IntKind)(n:Int)(k:V->AA):AA:=fI (aKd kd n) λn=>k (.int kd n)
def UK(m:Nat)(kd:IntKind)(k:V->AA):AA :=
 @Bool.rec (λ_=>Nat->IntKind->AO) (λm kd k=>wz kd (.ofNat m) k) (λm kd k=>k (.int kd (.ofNat m))) (Nat.ble m (aOK kd)) m kd k
def au:Int->IntKind->AO :=
 @Int.rec (λ_=>IntKind->AO) (λm kd k=>fN m λm=>UK m kd k) (λm kd k=>wz kd (.negSucc m) k)
def aQe(a b:Nat):Int:=.ofNat a+.negSucc b
def aQf(a:Nat)(y:Int):Int:=.negSucc a+y
def YB:Int->Int->Int:=@Int.rec (λ_=>Int->Int) (λa y=>@Int.rec (λ_=>Nat->Int) (λb a=>.ofNat (Nat.add a b)) (λb a=>aQe a b) y a) aQf
def aRL(a b:Nat):Int:=.ofNat a - .negSucc b
def aRM(a:Nat)(y:Int):Int:=.negSucc a-y
def TZ:Int->Int->Int:=@Int.rec (λ_=>Int->Int) (λa y=>@Int.rec (λ_=>Nat->Int) (λb a=>@Bool.rec (λ_=>Int) (.negSucc (Nat.sub (Nat.sub b a) (nat_lit 1))) (.ofNat (Nat.sub a b)) (Nat.ble b a)) (λb a=>aRL a b) y a) aRM
def KG:Int->Int->Bool:=@Int.rec (λ_=>Int->Bool) (λa y=>@Int.rec (λ_=>Nat->Bool) (λb a=>Nat.ble a b) (λ_ _=>false) y a) (λa y=>@Int.rec (λ_=>Nat->Bool) (λ_ _=>true) (λb a=>Nat.ble b a) y a)
def ya:Int->Int->Bool:=@Int.rec (λ_=>Int->Bool) (λa y=>@Int.rec (λ_=>Nat->Bool) (λb a=>Nat.beq a b) (λ_ _=>false) y a) (λa y=>@Int.rec (λ_=>Nat->Bool) (λ_ _=>false) (λb a=>Nat.beq a b) y a)
def Yv:BinOp->IntKind->Int->Int->AO :=
 @BinOp.rec (λ_=>IntKind->Int->Int->AO)
  (λkd x y k=>au (YB x y) kd k)
  (λkd x y k=>au (TZ x y) kd k)
  (λkd x y k=>rM .mul kd x y k)
  (λkd x y k=>rM .quo kd x y k)
  (λkd x y k=>rM .rem kd x y k)
  (λkd x y k=>rM .and kd x y k)
  (λkd x y k=>rM .or kd x y k)
  (λkd x y k=>rM .xor kd x y k)
  (λkd x y k=>rM .shl kd x y k)
  (λkd x y k=>rM .shr kd x y k)
  (λkd x y k=>rM .andNot kd x y k)
  (λ_ x y k=>bF (ya x y) k)
  (λ_ x y k=>bF (uE (ya x y)) k)
  (λ_ x y k=>bF (uE (KG y x)) k)
  (λ_ x y k=>bF (KG x y) k)
  (λ_ x y k=>bF (uE (KG x y)) k)
  (λ_ x y k=>bF (KG y x) k)
def YN(l n m j:Nat)(k:V->AA):AA:=CV (Nat.ble (Nat.add l m) (nat_lit 4294967296)) 14 (fN (Nat.add l m) λl'=>fN (Nat.add n (Nat.mul j (RQ l))) λn'=>k (.str l' n'))
def aJv:BinOp->Nat->Nat->Nat->Nat->AO :=
 @BinOp.rec (λ_=>Nat->Nat->Nat->Nat->AO)
  YN
  (λ_ _ _ _ _=>.bad 15) (λ_ _ _ _ _=>.bad 15) (λ_ _ _ _ _=>.bad 15) (λ_ _ _ _ _=>.bad 15) (λ_ _ _ _ _=>.bad 15) (λ_ _ _ _ _=>.bad 15) (λ_ _ _ _ _=>.bad 15) (λ_ _ _ _ _=>.bad 15) (λ_ _ _ _ _=>.bad 15) (λ_ _ _ _ _=>.bad 15)
  (λl n m j k=>bF (mY (Nat.beq l m) (Nat.beq n j)) k)
  (λl n m j k=>bF (uE (mY (Nat.beq l m) (Nat.beq n j))) k)
  (λ_ _ _ _ _=>.bad 15) (λ_ _ _ _ _=>.bad 15) (λ_ _ _ _ _=>.bad 15) (λ_ _ _ _ _=>.bad 15)
def sq{α:Type}:List α->(Nat->AA)->AA:=@List.rec α (λ_=>(Nat->AA)->AA) (λk=>k (nat_lit 0)) (λ_ _ ih k=>ih λn=>fN (Nat.succ n) k)
def sU(l m:List V)(k:List V->AA):AA:=@List.rec V (λ_=>List V->(List V->AA)->AA) (λm k=>k m) (λv _ ih m k=>ih m λl'=>k (v::l')) l m k
def OY(fs args caps:List V)(k:List V->AA):AA :=
 @List.rec V (λ_=>List V->List V->(List V->AA)->AA) (λfs args k=>@List.rec V (λ_=>List V->(List V->AA)->AA) (λargs k=>k args) (λf fs _ args k=>sU (f::fs) args k) fs args k)
  (λc cs _ fs args k=>sU args (c::cs) λl=>sU fs l k) caps fs args k
def XM:O->(Nat->T V->AA)->AA :=
 @O.rec (λ_=>(Nat->T V->AA)->AA) (λ_=>.bad 10) (λn t _ _ _ _ k=>k n t) (λn t k=>k n t) (λ_ _=>.bad 10) (λ_ _=>.bad 10) (λ_ _=>.bad 10) (λ_ _=>.bad 10)
def UX:O->Bool:=@O.rec (λ_=>Bool) false (λ_ _ _ _ _ _=>true) (λ_ _=>false) (λ_=>false) (λ_=>false) (λ_=>false) (λ_=>false)
def R8:O->(List (V×V)->AA)->AA :=
 @O.rec (λ_=>(List (V×V)->AA)->AA) (λ_=>.bad 11) (λ_ _ _ _ _ _ _=>.bad 11) (λ_ _ _=>.bad 11) (λes k=>k es) (λes k=>k es) (λ_ _=>.bad 11) (λ_ _=>.bad 11)
def aJP:O->(List (V×V)->AA)->AA :=
 @O.rec (λ_=>(List (V×V)->AA)->AA) (λ_=>.bad 11) (λ_ _ _ _ _ _ _=>.bad 11) (λ_ _ _=>.bad 11) (λes k=>k es) (λ_ _=>.bad 11) (λ_ _=>.bad 11) (λ_ _=>.bad 11)
def aJ6(ob:O)(es:List (V×V))(k:O->AA):AA :=
 @O.rec (λ_=>List (V×V)->AV) (λ_ _=>.bad 11) (λ_ _ _ _ _ _ _ _=>.bad 11) (λ_ _ _ _=>.bad 11) (λ_ es k=>k (.map es)) (λ_ es k=>k (.mapd es)) (λ_ _ _=>.bad 11) (λ_ _ _=>.bad 11) ob es k
abbrev Lk:=Nat->Jump->Q->T V->List Q->C->C->Q->AA
def qA(ob:O)(k:Lk):AA :=
 @O.rec (λ_=>Lk->AA) (λ_=>.bad 84) (λ_ _ _ _ _ _ _=>.bad 84) (λ_ _ _=>.bad 84) (λ_ _=>.bad 84) (λ_ _=>.bad 84) (λl k=>@Lp.rec (λ_=>Lk->AA) (λst pend fn tm params BW body B8 k=>k st pend fn tm params BW body B8) l k) (λ_ _=>.bad 84) ob k
def RW(h:T O)(o:Q)(off:Nat)(o':Q)(DG:Nat)(k:Bool->AA):AA :=
 @Bool.rec (λ_=>T O->Q->Nat->Q->Nat->(Bool->AA)->AA)
  (λh o _ o' _ k=>F7 o h λx=>F7 o' h λy=>CV (mY (UX x) (UX y)) 20 (k false))
  (λh o off _ DG k=>@Bool.rec (λ_=>T O->Q->(Bool->AA)->AA) (λh o k=>F7 o h λx=>CV (UX x) 20 (k false)) (λ_ _ k=>k true) (Nat.beq off DG) h o k) (Yt o o') h o off o' DG k
def Oy(h:T O)(o:Q)(off:Nat)(k:V->AA):AA :=
 F7 o h λob=>XM ob λn t=>CV (Nat.ble (Nat.succ off) n) 46 (MU (qn off) t k)
def Ya:Nat->Nat->T V->(List V->AA)->AA :=
 @Nat.rec (λ_=>Nat->T V->(List V->AA)->AA) (λ_ _ k=>k []) (λ_ ih i t k=>MU (qn i) t λv=>ih (Nat.succ i) t λl=>k (v::l))
def OS(h:T O)(o:Q)(off n:Nat)(k:List V->AA):AA :=
 F7 o h λob=>XM ob λm t=>CV (Nat.ble (Nat.add off n) m) 47 (Ya n off t k)
def sD:List V->Nat->T V->(T V->AA)->AA :=
 @List.rec V (λ_=>Nat->T V->(T V->AA)->AA) (λ_ t k=>k t) (λv _ ih i t k=>Nc (qn i) v t λt'=>ih (Nat.succ i) t' k)
def YV:List V->Nat->(List V->AA)->AA :=
 @List.rec V (λ_=>Nat->(List V->AA)->AA) (λn k=>@Nat.rec (λ_=>(List V->AA)->AA) (λk=>k []) (λ_ _ _=>.bad 30) n k)
  (λv _ ih n k=>@Nat.rec (λ_=>V->(Nat->(List V->AA)->AA)->(List V->AA)->AA) (λ_ _ k=>k []) (λn _ v ih k=>ih n λl'=>k (v::l')) n v ih k)
def aJZ:List V->Nat->Nat->(List V->AA)->AA :=
 @List.rec V (λ_=>Nat->Nat->(List V->AA)->AA) (λoff n k=>@Nat.rec (λ_=>Nat->(List V->AA)->AA) (λn k=>YV [] n k) (λ_ _ _ _=>.bad 31) off n k)
  (λv l ih off n k=>@Nat.rec (λ_=>List V->(Nat->Nat->(List V->AA)->AA)->Nat->(List V->AA)->AA) (λl _ n k=>YV l n k) (λoff _ _ ih n k=>ih off n k) off (v::l) ih n k)
def X2:List V->Nat->AO :=
 @List.rec V (λ_=>Nat->AO) (λ_ _=>.bad 1) (λv _ ih n k=>@Nat.rec (λ_=>V->(Nat->AO)->AO) (λv _ k=>k v) (λm _ _ ih k=>ih m k) n v ih k)
def We:Bool->Nat->Nat->List V->AO :=
 @Bool.rec (λ_=>Nat->Nat->List V->AO) (λoff _ l k=>X2 l off k) (λoff n l k=>aJZ l off n λl'=>k (.agg l'))
def aJY:List V->Nat->List V->(List V->AA)->AA :=
 @List.rec V (λ_=>Nat->List V->(List V->AA)->AA)
  (λoff new k=>@Nat.rec (λ_=>List V->(List V->AA)->AA) (λnew k=>@List.rec V (λ_=>(List V->AA)->AA) (λk=>k []) (λ_ _ _ _=>.bad 26) new k) (λ_ _ _ _=>.bad 27) off new k)
  (λx r ih off new k=>@Nat.rec (λ_=>V->List V->(Nat->List V->(List V->AA)->AA)->List V->(List V->AA)->AA)
   (λx r ih new k=>@List.rec V (λ_=>V->List V->(Nat->List V->(List V->AA)->AA)->(List V->AA)->AA) (λx r _ k=>k (x::r)) (λv vs _ _ _ ih k=>ih (nat_lit 0) vs λl'=>k (v::l')) new x r ih k)
   (λoff _ x _ ih new k=>ih off new λl'=>k (x::l')) off x r ih new k)
def Sq(c:Nat)(o:Q)(off len sz i:Nat)(k:V->AA):AA:=CV (Nat.ble (Nat.succ i) len) c (fN (Nat.add off (Nat.mul i sz)) λa=>k (.ptr o a))
def Yd(o:Q)(off cap sz lo hi:Nat)(k:V->AA):AA :=
 CV (mY (Nat.ble lo hi) (Nat.ble hi cap)) 41 (fN (Nat.sub hi lo) λl=>fN (Nat.sub cap lo) λc=>IP (Nat.beq lo cap) (k (.sl o off l c)) (fN (Nat.add off (Nat.mul lo sz)) λa=>k (.sl o a l c)))
def Yc(o:Q)(off len sz lo hi:Nat)(k:V->AA):AA :=
 CV (mY (Nat.ble lo hi) (Nat.ble hi len)) 43 (IP (Nat.ble (Nat.succ lo) len) (fN (Nat.sub hi lo) λl=>fN (Nat.add off (Nat.mul lo sz)) λa=>k (.su o a l sz)) (IP (Nat.beq lo (nat_lit 0)) (k (.su o off (nat_lit 0) sz)) (k .se)))
def Zr(len:Nat)(o:Q)(off:Nat)(k:V->AA):AA:=@Nat.rec (λ_=>AA) (.bad 114) (λ_ _=>k (.ptr o off)) len
def Ss(len sz:Nat)(h:T O)(o:Q)(off:Nat)(k:Nat->List V->AA):AA:=@Nat.rec (λ_=>AA) (k (nat_lit 0) []) (λm _=>OS h o off (Nat.mul (Nat.succ m) sz) λl=>k (Nat.succ m) l) len
def RG:Nat->Nat->(List V->AA)->AA :=
 @Nat.rec (λ_=>Nat->(List V->AA)->AA) (λ_ k=>k []) (λ_ ih n k=>fN (Nat.mod n (nat_lit 256)) λc=>fN (Nat.div n (nat_lit 256)) λn'=>ih n' λcs=>k (.int .u8 (.ofNat c)::cs))
def Ye:List Q->T O->(T O->AA)->AA:=@List.rec Q (λ_=>T O->(T O->AA)->AA) (λh k=>k h) (λq _ ih h k=>ES q .dead h λh'=>ih h' k)
def Z7(n:Nat)(t:T V)(BT:List Q)(ty:Nat)(ex:Bool)(o:Q)(h:T O)(k:T O->AA):AA:=Ye BT h λh'=>ES o (.row n t [] (nat_lit 0) ty ex) h' k
def U7(n:Nat)(t:T V)(BT:List Q)(B6 ty:Nat)(ex:Bool)(o:Q)(off:Nat)(vs:List V)(h:T O)(k:T O->AA):AA :=
 sq vs λm=>CV (Nat.ble (Nat.add off m) n) 60 (sD vs off t λt'=>IP (Nat.ble B6 off) (ES o (.row n t' BT B6 ty ex) h k) (Z7 n t' BT ty ex o h k))
def aPW:O->Q->Nat->List V->T O->(T O->AA)->AA :=
 @O.rec (λ_=>Q->Nat->List V->T O->(T O->AA)->AA) (λ_ _ _ _ _=>.bad 61) U7
  (λ_ _ _ _ _ _ _=>.bad 61) (λ_ _ _ _ _ _=>.bad 61) (λ_ _ _ _ _ _=>.bad 61) (λ_ _ _ _ _ _=>.bad 61) (λ_ _ _ _ _ _=>.bad 61)
def M3(o:Q)(off:Nat)(vs:List V)(h:T O)(k:T O->AA):AA:=F7 o h λob=>aPW ob o off vs h k
def UY(ty sz len m:Nat)(old new:List V)(h:T O)(nx:Q)(k:Kw):AA :=
 CV (Nat.ble (Nat.add len m) (nat_lit 4294967296)) 112 (sD old (nat_lit 0) .nil λt=>sD new (Nat.mul len sz) t λt'=>fN (Nat.mul (Nat.add len m) sz) λn=>fN (Nat.add len m) λl=>ES nx (.row n t' [] (nat_lit 0) ty false) h λh'=>Hx nx λnx'=>k (.su nx (nat_lit 0) l sz) h' nx')
def apN(m ty sz:Nat)(new:List V)(h:T O)(nx:Q)(k:Kw):AA:=@Nat.rec (λ_=>AA) (k .nils h nx) (λm _=>UY ty sz (nat_lit 0) (Nat.succ m) [] new h nx k) m
def YA(o:Q)(off len cap ty sz m:Nat)(new:List V)(h:T O)(nx:Q)(k:Kw):AA :=
 IP (Nat.ble (Nat.add len m) cap)
  (@Nat.rec (λ_=>AA) (k (.sl o off len cap) h nx) (λm _=>M3 o (Nat.add off (Nat.mul len sz)) new h λh'=>fN (Nat.add len (Nat.succ m)) λl=>k (.sl o off l cap) h' nx) m)
  (Ss len sz h o off λ_ old=>UY ty sz len m old new h nx k)
def aJs(n:Nat)(o:Q)(off len ty sz m:Nat)(new:List V)(t:T V)(BT:List Q)(E5:Nat)(h:T O)(nx:Q)(k:Kw):AA :=
 CV (mY (Nat.beq (Nat.add off (Nat.mul len sz)) n) (mY (Nat.beq off (nat_lit 0)) (mY (Nat.beq ty E5) (Nat.ble (Nat.add len m) (nat_lit 4294967296))))) 64
  (sD new n t λt'=>fN (Nat.add n (Nat.mul m sz)) λn'=>fN (Nat.add len m) λl=>ES o (.ro n t) h λh'=>ES nx (.row n' t' (o::BT) n E5 false) h' λMT=>Hx nx λnx'=>k (.su nx off l sz) MT nx')
def aJt(ob:O)(o:Q)(off len ty sz m:Nat)(new:List V)(h:T O)(nx:Q)(k:Kw):AA :=
 @O.rec (λ_=>AA) (.bad 65) (λn t BT _ E5 _=>IP (Nat.ble (Nat.add off (Nat.mul (Nat.add len m) sz)) n)
   (M3 o (Nat.add off (Nat.mul len sz)) new h λh'=>fN (Nat.add len m) λl=>k (.su o off l sz) h' nx) (aJs n o off len ty sz m new t BT E5 h nx k))
  (λ_ _=>.bad 65) (λ_=>.bad 65) (λ_=>.bad 65) (λ_=>.bad 65) (λ_=>.bad 65) ob
def aNX(m:Nat)(o:Q)(off len ty sz:Nat)(new:List V)(h:T O)(nx:Q)(k:Kw):AA :=
 @Nat.rec (λ_=>AA) (k (.su o off len sz) h nx) (λm _=>F7 o h λob=>aJt ob o off len ty sz (Nat.succ m) new h nx k) m
def XJ(ok:Bool)(z:V)(k:V->AA):AA:=@Bool.rec (λ_=>V->AO) (λ_ _=>.bad 120) (λz k=>k (.tup [z,.bool false])) ok z k
def aJN(ok:Bool)(v:V)(k:V->AA):AA:=@Bool.rec (λ_=>V->AO) (λv k=>k v) (λv k=>k (.tup [v,.bool true])) ok v k
def YW(ok:Bool)(tt:Nat)(z:V)(t:Nat)(u:V)(k:V->AA):AA:=IP (Nat.beq t tt) (aJN ok u k) (XJ ok z k)
def vI:V->(IntKind->Int->AA)->AA :=
 @V.rec (λ_=>(IntKind->Int->AA)->AA) (λ_=>PUnit)
  (λ_=>.bad 3)
  (λ_ _=>.bad 3)
  (λkd n k=>k kd n)
  (λ_ _ _=>.bad 3)
  (λ_=>.bad 3)
  (λ_ _ _=>.bad 3)
  (λ_=>.bad 3)
  (λ_ _ _ _ _=>.bad 3)
  (λ_ _ _ _ _=>.bad 3)
  (λ_=>.bad 3)
  (λ_=>.bad 3)
  (λ_ _=>.bad 3)
  (λ_=>.bad 3)
  (λ_ _ _ _ _ _=>.bad 3)
  (λ_ _=>.bad 3)
  (λ_=>.bad 3)
  (λ_ _ _ _=>.bad 3)
  (λ_ _ _=>.bad 3)
  (λ_ _ _=>.bad 3)
  ⟨⟩ (λ_ _ _ _=>⟨⟩)
def vB:V->(Bool->AA)->AA :=
 @V.rec (λ_=>(Bool->AA)->AA) (λ_=>PUnit)
  (λ_=>.bad 4)
  (λb k=>k b)
  (λ_ _ _=>.bad 4)
  (λ_ _ _=>.bad 4)
  (λ_=>.bad 4)
  (λ_ _ _=>.bad 4)
  (λ_=>.bad 4)
  (λ_ _ _ _ _=>.bad 4)
  (λ_ _ _ _ _=>.bad 4)
  (λ_=>.bad 4)
  (λ_=>.bad 4)
  (λ_ _=>.bad 4)
  (λ_=>.bad 4)
  (λ_ _ _ _ _ _=>.bad 4)
  (λ_ _=>.bad 4)
  (λ_=>.bad 4)
  (λ_ _ _ _=>.bad 4)
  (λ_ _ _=>.bad 4)
  (λ_ _ _=>.bad 4)
  ⟨⟩ (λ_ _ _ _=>⟨⟩)
def vN:V->(Nat->AA)->AA :=
 @V.rec (λ_=>(Nat->AA)->AA) (λ_=>PUnit)
  (λ_=>.bad 6)
  (λ_ _=>.bad 6)
  (λ_ n k=>iN n k)
  (λ_ _ _=>.bad 6)
  (λ_=>.bad 6)
  (λ_ _ _=>.bad 6)
  (λ_=>.bad 6)
  (λ_ _ _ _ _=>.bad 6)
  (λ_ _ _ _ _=>.bad 6)
  (λ_=>.bad 6)
  (λ_=>.bad 6)
  (λ_ _=>.bad 6)
  (λ_=>.bad 6)
  (λ_ _ _ _ _ _=>.bad 6)
  (λ_ _=>.bad 6)
  (λ_=>.bad 6)
  (λ_ _ _ _=>.bad 6)
  (λ_ _ _=>.bad 6)
  (λ_ _ _=>.bad 6)
  ⟨⟩ (λ_ _ _ _=>⟨⟩)
def vP:V->(Q->Nat->AA)->AA :=
 @V.rec (λ_=>(Q->Nat->AA)->AA) (λ_=>PUnit)
  (λ_=>.bad 7)
  (λ_ _=>.bad 7)
  (λ_ _ _=>.bad 7)
  (λ_ _ _=>.bad 7)
  (λ_=>.bad 7)
  (λo off k=>k o off)
  (λ_=>.bad 7)
  (λ_ _ _ _ _=>.bad 7)
  (λ_ _ _ _ _=>.bad 7)
  (λ_=>.bad 7)
  (λ_=>.bad 7)
  (λ_ _=>.bad 7)
  (λ_=>.bad 7)
  (λ_ _ _ _ _ _=>.bad 7)
  (λ_ _=>.bad 7)
  (λ_=>.bad 7)
  (λ_ _ _ _=>.bad 7)
  (λ_ _ _=>.bad 7)
  (λ_ _ _=>.bad 7)
  ⟨⟩ (λ_ _ _ _=>⟨⟩)
def vS:V->(Nat->Nat->AA)->AA :=
 @V.rec (λ_=>(Nat->Nat->AA)->AA) (λ_=>PUnit)
  (λ_=>.bad 8)
  (λ_ _=>.bad 8)
  (λ_ _ _=>.bad 8)
  (λl n k=>k l n)
  (λ_=>.bad 8)
  (λ_ _ _=>.bad 8)
  (λ_=>.bad 8)
  (λ_ _ _ _ _=>.bad 8)
  (λ_ _ _ _ _=>.bad 8)
  (λ_=>.bad 8)
  (λ_=>.bad 8)
  (λ_ _=>.bad 8)
  (λ_=>.bad 8)
  (λ_ _ _ _ _ _=>.bad 8)
  (λ_ _=>.bad 8)
  (λ_=>.bad 8)
  (λ_ _ _ _=>.bad 8)
  (λ_ _ _=>.bad 8)
  (λ_ _ _=>.bad 8)
  ⟨⟩ (λ_ _ _ _=>⟨⟩)
def vA:V->(List V->AA)->AA :=
 @V.rec (λ_=>(List V->AA)->AA) (λ_=>PUnit)
  (λ_=>.bad 9)
  (λ_ _=>.bad 9)
  (λ_ _ _=>.bad 9)
  (λ_ _ _=>.bad 9)
  (λ_=>.bad 9)
  (λ_ _ _=>.bad 9)
  (λ_=>.bad 9)
  (λ_ _ _ _ _=>.bad 9)
  (λ_ _ _ _ _=>.bad 9)
  (λ_=>.bad 9)
  (λ_=>.bad 9)
  (λ_ _=>.bad 9)
  (λ_=>.bad 9)
  (λ_ _ _ _ _ _=>.bad 9)
  (λ_ _=>.bad 9)
  (λ_=>.bad 9)
  (λ_ _ _ _=>.bad 9)
  (λvs _ k=>k vs)
  (λ_ _ _=>.bad 9)
  ⟨⟩ (λ_ _ _ _=>⟨⟩)
def vT:V->(List V->AA)->AA :=
 @V.rec (λ_=>(List V->AA)->AA) (λ_=>PUnit)
  (λ_=>.bad 55)
  (λ_ _=>.bad 55)
  (λ_ _ _=>.bad 55)
  (λ_ _ _=>.bad 55)
  (λ_=>.bad 55)
  (λ_ _ _=>.bad 55)
  (λ_=>.bad 55)
  (λ_ _ _ _ _=>.bad 55)
  (λ_ _ _ _ _=>.bad 55)
  (λ_=>.bad 55)
  (λ_=>.bad 55)
  (λ_ _=>.bad 55)
  (λ_=>.bad 55)
  (λ_ _ _ _ _ _=>.bad 55)
  (λ_ _=>.bad 55)
  (λ_=>.bad 55)
  (λ_ _ _ _=>.bad 55)
  (λ_ _ _=>.bad 55)
  (λvs _ k=>k vs)
  ⟨⟩ (λ_ _ _ _=>⟨⟩)
def vM:V->Nat->(Q->AA)->AA->AA :=
 @V.rec (λ_=>Nat->(Q->AA)->AA->AA) (λ_=>PUnit)
  (λc _ _=>.bad c)
  (λ_ c _ _=>.bad c)
  (λ_ _ c _ _=>.bad c)
  (λ_ _ c _ _=>.bad c)
  (λc _ _=>.bad c)
  (λ_ _ c _ _=>.bad c)
  (λc _ _=>.bad c)
  (λ_ _ _ _ c _ _=>.bad c)
  (λ_ _ _ _ c _ _=>.bad c)
  (λc _ _=>.bad c)
  (λ_ _ kn=>kn)
  (λo _ k _=>k o)
  (λc _ _=>.bad c)
  (λ_ _ _ _ _ c _ _=>.bad c)
  (λ_ c _ _=>.bad c)
  (λc _ _=>.bad c)
  (λ_ _ _ c _ _=>.bad c)
  (λ_ _ c _ _=>.bad c)
  (λ_ _ c _ _=>.bad c)
  ⟨⟩ (λ_ _ _ _=>⟨⟩)
def O5:V->Nat->(Nat->Nat->AA)->AA :=
 @V.rec (λ_=>Nat->(Nat->Nat->AA)->AA) (λ_=>PUnit)
  (λc _=>.bad c)
  (λ_ c _=>.bad c)
  (λ_ _ c _=>.bad c)
  (λl n _ k=>k l n)
  (λc _=>.bad c)
  (λ_ _ c _=>.bad c)
  (λc _=>.bad c)
  (λ_ _ _ _ c _=>.bad c)
  (λ_ _ _ _ c _=>.bad c)
  (λc _=>.bad c)
  (λc _=>.bad c)
  (λ_ c _=>.bad c)
  (λc _=>.bad c)
  (λ_ _ _ _ _ c _=>.bad c)
  (λ_ c _=>.bad c)
  (λc _=>.bad c)
  (λ_ _ _ c _=>.bad c)
  (λ_ _ c _=>.bad c)
  (λ_ _ c _=>.bad c)
  ⟨⟩ (λ_ _ _ _=>⟨⟩)
def O7:V->Nat->(IntKind->Int->AA)->AA :=
 @V.rec (λ_=>Nat->(IntKind->Int->AA)->AA) (λ_=>PUnit)
  (λc _=>.bad c)
  (λ_ c _=>.bad c)
  (λkd n _ k=>k kd n)
  (λ_ _ c _=>.bad c)
  (λc _=>.bad c)
  (λ_ _ c _=>.bad c)
  (λc _=>.bad c)
  (λ_ _ _ _ c _=>.bad c)
  (λ_ _ _ _ c _=>.bad c)
  (λc _=>.bad c)
  (λc _=>.bad c)
  (λ_ c _=>.bad c)
  (λc _=>.bad c)
  (λ_ _ _ _ _ c _=>.bad c)
  (λ_ c _=>.bad c)
  (λc _=>.bad c)
  (λ_ _ _ c _=>.bad c)
  (λ_ _ c _=>.bad c)
  (λ_ _ c _=>.bad c)
  ⟨⟩ (λ_ _ _ _=>⟨⟩)
def O6:V->Nat->(Q->Nat->AA)->AA :=
 @V.rec (λ_=>Nat->(Q->Nat->AA)->AA) (λ_=>PUnit)
  (λc _=>.bad c)
  (λ_ c _=>.bad c)
  (λ_ _ c _=>.bad c)
  (λ_ _ c _=>.bad c)
  (λc _=>.bad c)
  (λo off _ k=>k o off)
  (λc _=>.bad c)
  (λ_ _ _ _ c _=>.bad c)
  (λ_ _ _ _ c _=>.bad c)
  (λc _=>.bad c)
  (λc _=>.bad c)
  (λ_ c _=>.bad c)
  (λc _=>.bad c)
  (λ_ _ _ _ _ c _=>.bad c)
  (λ_ c _=>.bad c)
  (λc _=>.bad c)
  (λ_ _ _ c _=>.bad c)
  (λ_ _ c _=>.bad c)
  (λ_ _ c _=>.bad c)
  ⟨⟩ (λ_ _ _ _=>⟨⟩)
def Tc:V->(Nat->AA)->AA :=
 @V.rec (λ_=>(Nat->AA)->AA) (λ_=>PUnit)
  (λ_=>.bad 39)
  (λ_ _=>.bad 39)
  (λ_ _ _=>.bad 39)
  (λ_ _ _=>.bad 39)
  (λ_=>.bad 39)
  (λ_ _ _=>.bad 39)
  (λk=>k (nat_lit 0))
  (λ_ _ len _ k=>k len)
  (λ_ _ len _ k=>k len)
  (λk=>k (nat_lit 0))
  (λ_=>.bad 39)
  (λ_ _=>.bad 39)
  (λ_=>.bad 39)
  (λ_ _ _ _ _ _=>.bad 39)
  (λ_ _=>.bad 39)
  (λ_=>.bad 39)
  (λ_ _ _ _=>.bad 39)
  (λ_ _ _=>.bad 39)
  (λ_ _ _=>.bad 39)
  ⟨⟩ (λ_ _ _ _=>⟨⟩)
def aKa:V->Nat->Nat->AO :=
 @V.rec (λ_=>Nat->Nat->AO) (λ_=>PUnit)
  (λ_ _ _=>.bad 38)
  (λ_ _ _ _=>.bad 38)
  (λ_ _ _ _ _=>.bad 38)
  (λ_ _ _ _ _=>.bad 38)
  (λ_ _ _=>.bad 38)
  (λ_ _ _ _ _=>.bad 38)
  (λ_ _ _=>.bad 38)
  (λo off len _ sz i k=>Sq (nat_lit 36) o off len sz i k)
  (λo off len _ sz i k=>Sq (nat_lit 37) o off len sz i k)
  (λ_ _ _=>.bad 38)
  (λ_ _ _=>.bad 38)
  (λ_ _ _ _=>.bad 38)
  (λ_ _ _=>.bad 38)
  (λ_ _ _ _ _ _ _ _=>.bad 38)
  (λ_ _ _ _=>.bad 38)
  (λ_ _ _=>.bad 38)
  (λ_ _ _ _ _ _=>.bad 38)
  (λ_ _ _ _ _=>.bad 38)
  (λ_ _ _ _ _=>.bad 38)
  ⟨⟩ (λ_ _ _ _=>⟨⟩)
def O9:V->(List V->AA)->AA :=
 @V.rec (λ_=>(List V->AA)->AA) (λ_=>PUnit)
  (λ_=>.bad 111)
  (λb k=>k [.bool b])
  (λkd n k=>k [.int kd n])
  (λl n k=>k [.str l n])
  (λk=>k [.nilp])
  (λo off k=>k [.ptr o off])
  (λk=>k [.nils])
  (λo off len cap k=>k [.sl o off len cap])
  (λo off len z k=>k [.su o off len z])
  (λk=>k [.se])
  (λk=>k [.nilm])
  (λo k=>k [.map o])
  (λk=>k [.nilf])
  (λf fs cs _ _ k=>k [.fn f fs cs])
  (λl k=>k [.yld l])
  (λk=>k [.nili])
  (λt u _ k=>k [.ifc t u])
  (λvs _ k=>k vs)
  (λ_ _ _=>.bad 110)
  ⟨⟩ (λ_ _ _ _=>⟨⟩)
def aPQ:V->AO :=
 @V.rec (λ_=>AO) (λ_=>PUnit)
  (λ_=>.bad 48)
  (λ_ _=>.bad 48)
  (λ_ _ _=>.bad 48)
  (λ_ _ _=>.bad 48)
  (λ_=>.bad 48)
  (λo off k=>k (.ptr o off))
  (λ_=>.bad 48)
  (λ_ _ _ _ _=>.bad 48)
  (λ_ _ _ _ _=>.bad 48)
  (λ_=>.bad 48)
  (λ_=>.bad 48)
  (λ_ _=>.bad 48)
  (λ_=>.bad 48)
  (λf fs cs _ _ k=>k (.fn f fs cs))
  (λl k=>k (.yld l))
  (λ_=>.bad 48)
  (λt u _ k=>k (.ifc t u))
  (λ_ _ _=>.bad 48)
  (λ_ _ _=>.bad 48)
  ⟨⟩ (λ_ _ _ _=>⟨⟩)
def aJ8:V->BinOp->IntKind->Int->AO :=
 @V.rec (λ_=>BinOp->IntKind->Int->AO) (λ_=>PUnit)
  (λ_ _ _ _=>.bad 17)
  (λ_ _ _ _ _=>.bad 17)
  (λkd n op ka x k=>CV (Nat.beq (mb ka) (mb kd)) 16 (Yv op ka x n k))
  (λ_ _ _ _ _ _=>.bad 17)
  (λ_ _ _ _=>.bad 17)
  (λ_ _ _ _ _ _=>.bad 17)
  (λ_ _ _ _=>.bad 17)
  (λ_ _ _ _ _ _ _ _=>.bad 17)
  (λ_ _ _ _ _ _ _ _=>.bad 17)
  (λ_ _ _ _=>.bad 17)
  (λ_ _ _ _=>.bad 17)
  (λ_ _ _ _ _=>.bad 17)
  (λ_ _ _ _=>.bad 17)
  (λ_ _ _ _ _ _ _ _ _=>.bad 17)
  (λ_ _ _ _ _=>.bad 17)
  (λ_ _ _ _=>.bad 17)
  (λ_ _ _ _ _ _ _=>.bad 17)
  (λ_ _ _ _ _ _=>.bad 17)
  (λ_ _ _ _ _ _=>.bad 17)
  ⟨⟩ (λ_ _ _ _=>⟨⟩)
def aJ9:V->BinOp->Nat->Nat->AO :=
 @V.rec (λ_=>BinOp->Nat->Nat->AO) (λ_=>PUnit)
  (λ_ _ _ _=>.bad 18)
  (λ_ _ _ _ _=>.bad 18)
  (λ_ _ _ _ _ _=>.bad 18)
  (λl n op la na k=>aJv op la na l n k)
  (λ_ _ _ _=>.bad 18)
  (λ_ _ _ _ _ _=>.bad 18)
  (λ_ _ _ _=>.bad 18)
  (λ_ _ _ _ _ _ _ _=>.bad 18)
  (λ_ _ _ _ _ _ _ _=>.bad 18)
  (λ_ _ _ _=>.bad 18)
  (λ_ _ _ _=>.bad 18)
  (λ_ _ _ _ _=>.bad 18)
  (λ_ _ _ _=>.bad 18)
  (λ_ _ _ _ _ _ _ _ _=>.bad 18)
  (λ_ _ _ _ _=>.bad 18)
  (λ_ _ _ _=>.bad 18)
  (λ_ _ _ _ _ _ _=>.bad 18)
  (λ_ _ _ _ _ _=>.bad 18)
  (λ_ _ _ _ _ _=>.bad 18)
  ⟨⟩ (λ_ _ _ _=>⟨⟩)
def aPO:V->BinOp->V->AO :=
 @V.rec (λ_=>BinOp->V->AO) (λ_=>PUnit)
  (λ_ _ _=>.bad 19)
  (λ_ _ _ _=>.bad 19)
  (λkd n op y k=>aJ8 y op kd n k)
  (λl n op y k=>aJ9 y op l n k)
  (λ_ _ _=>.bad 19)
  (λ_ _ _ _ _=>.bad 19)
  (λ_ _ _=>.bad 19)
  (λ_ _ _ _ _ _ _=>.bad 19)
  (λ_ _ _ _ _ _ _=>.bad 19)
  (λ_ _ _=>.bad 19)
  (λ_ _ _=>.bad 19)
  (λ_ _ _ _=>.bad 19)
  (λ_ _ _=>.bad 19)
  (λ_ _ _ _ _ _ _ _=>.bad 19)
  (λ_ _ _ _=>.bad 19)
  (λ_ _ _=>.bad 19)
  (λ_ _ _ _ _ _=>.bad 19)
  (λ_ _ _ _ _=>.bad 19)
  (λ_ _ _ _ _=>.bad 19)
  ⟨⟩ (λ_ _ _ _=>⟨⟩)
def O8:V->(Q->List V->List V->AA)->(Q->AA)->AA :=
 @V.rec (λ_=>(Q->List V->List V->AA)->(Q->AA)->AA) (λ_=>PUnit)
  (λ_ _=>.bad 85)
  (λ_ _ _=>.bad 85)
  (λ_ _ _ _=>.bad 85)
  (λ_ _ _ _=>.bad 85)
  (λ_ _=>.bad 85)
  (λ_ _ _ _=>.bad 85)
  (λ_ _=>.bad 85)
  (λ_ _ _ _ _ _=>.bad 85)
  (λ_ _ _ _ _ _=>.bad 85)
  (λ_ _=>.bad 85)
  (λ_ _=>.bad 85)
  (λ_ _ _=>.bad 85)
  (λ_ _=>.bad 85)
  (λf fs cs _ _ k _=>k f fs cs)
  (λl _ ky=>ky l)
  (λ_ _=>.bad 85)
  (λ_ _ _ _ _=>.bad 85)
  (λ_ _ _ _=>.bad 85)
  (λ_ _ _ _=>.bad 85)
  ⟨⟩ (λ_ _ _ _=>⟨⟩)
def aq:V->Bool->St->St->St :=
 @V.rec (λ_=>Bool->St->St->St) (λ_=>PUnit)
  (λ_ _ _=>eZ)
  (λb want go skip=>aAk b want go skip)
  (λ_ _ _ _ _=>eZ)
  (λ_ _ _ _ _=>eZ)
  (λ_ _ _=>eZ)
  (λ_ _ _ _ _=>eZ)
  (λ_ _ _=>eZ)
  (λ_ _ _ _ _ _ _=>eZ)
  (λ_ _ _ _ _ _ _=>eZ)
  (λ_ _ _=>eZ)
  (λ_ _ _=>eZ)
  (λ_ _ _ _=>eZ)
  (λ_ _ _=>eZ)
  (λ_ _ _ _ _ _ _ _=>eZ)
  (λ_ _ _ _=>eZ)
  (λ_ _ _=>eZ)
  (λ_ _ _ _ _ _=>eZ)
  (λ_ _ _ _ _=>eZ)
  (λvs _ _ _ skip=>aOR vs skip)
  ⟨⟩ (λ_ _ _ _=>⟨⟩)
def YS:V->St->St->St :=
 @V.rec (λ_=>St->St->St) (λ_=>PUnit)
  (λ_ _=>eV)
  (λb x y=>aJx b x y)
  (λ_ _ _ _=>eV)
  (λ_ _ _ _=>eV)
  (λ_ _=>eV)
  (λ_ _ _ _=>eV)
  (λ_ _=>eV)
  (λ_ _ _ _ _ _=>eV)
  (λ_ _ _ _ _ _=>eV)
  (λ_ _=>eV)
  (λ_ _=>eV)
  (λ_ _ _=>eV)
  (λ_ _=>eV)
  (λ_ _ _ _ _ _ _=>eV)
  (λ_ _ _=>eV)
  (λ_ _=>eV)
  (λ_ _ _ _ _=>eV)
  (λ_ _ _ _=>eV)
  (λ_ _ _ _=>eV)
  ⟨⟩ (λ_ _ _ _=>⟨⟩)
def UL:V->(Bool->AA)->AA :=
 @V.rec (λ_=>(Bool->AA)->AA) (λ_=>PUnit)
  (λ_=>.bad 21)
  (λ_ _=>.bad 21)
  (λ_ _ _=>.bad 21)
  (λ_ _ _=>.bad 21)
  (λ_=>.bad 21)
  (λ_ _ _=>.bad 21)
  (λk=>k true)
  (λ_ _ _ _ k=>k false)
  (λ_ _ _ _ k=>k false)
  (λk=>k false)
  (λ_=>.bad 21)
  (λ_ _=>.bad 21)
  (λ_=>.bad 21)
  (λ_ _ _ _ _ _=>.bad 21)
  (λ_ _=>.bad 21)
  (λ_=>.bad 21)
  (λ_ _ _ _=>.bad 21)
  (λ_ _ _=>.bad 21)
  (λ_ _ _=>.bad 21)
  ⟨⟩ (λ_ _ _ _=>⟨⟩)
def UM:V->(Bool->AA)->AA :=
 @V.rec (λ_=>(Bool->AA)->AA) (λ_=>PUnit)
  (λ_=>.bad 21)
  (λ_ _=>.bad 21)
  (λ_ _ _=>.bad 21)
  (λ_ _ _=>.bad 21)
  (λ_=>.bad 21)
  (λ_ _ _=>.bad 21)
  (λ_=>.bad 21)
  (λ_ _ _ _ _=>.bad 21)
  (λ_ _ _ _ _=>.bad 21)
  (λ_=>.bad 21)
  (λk=>k true)
  (λ_ k=>k false)
  (λ_=>.bad 21)
  (λ_ _ _ _ _ _=>.bad 21)
  (λ_ _=>.bad 21)
  (λ_=>.bad 21)
  (λ_ _ _ _=>.bad 21)
  (λ_ _ _=>.bad 21)
  (λ_ _ _=>.bad 21)
  ⟨⟩ (λ_ _ _ _=>⟨⟩)
def UO:V->(Bool->AA)->AA :=
 @V.rec (λ_=>(Bool->AA)->AA) (λ_=>PUnit)
  (λ_=>.bad 21)
  (λ_ _=>.bad 21)
  (λ_ _ _=>.bad 21)
  (λ_ _ _=>.bad 21)
  (λ_=>.bad 21)
  (λ_ _ _=>.bad 21)
  (λ_=>.bad 21)
  (λ_ _ _ _ _=>.bad 21)
  (λ_ _ _ _ _=>.bad 21)
  (λ_=>.bad 21)
  (λ_=>.bad 21)
  (λ_ _=>.bad 21)
  (λk=>k true)
  (λ_ _ _ _ _ k=>k false)
  (λ_ k=>k false)
  (λ_=>.bad 21)
  (λ_ _ _ _=>.bad 21)
  (λ_ _ _=>.bad 21)
  (λ_ _ _=>.bad 21)
  ⟨⟩ (λ_ _ _ _=>⟨⟩)
def UN:V->(Bool->AA)->AA :=
 @V.rec (λ_=>(Bool->AA)->AA) (λ_=>PUnit)
  (λ_=>.bad 21)
  (λ_ _=>.bad 21)
  (λ_ _ _=>.bad 21)
  (λ_ _ _=>.bad 21)
  (λ_=>.bad 21)
  (λ_ _ _=>.bad 21)
  (λ_=>.bad 21)
  (λ_ _ _ _ _=>.bad 21)
  (λ_ _ _ _ _=>.bad 21)
  (λ_=>.bad 21)
  (λ_=>.bad 21)
  (λ_ _=>.bad 21)
  (λ_=>.bad 21)
  (λ_ _ _ _ _ _=>.bad 21)
  (λ_ _=>.bad 21)
  (λk=>k true)
  (λ_ _ _ k=>k false)
  (λ_ _ _=>.bad 21)
  (λ_ _ _=>.bad 21)
  ⟨⟩ (λ_ _ _ _=>⟨⟩)
def aKb:V->(Bool->AA)->AA :=
 @V.rec (λ_=>(Bool->AA)->AA) (λ_=>PUnit)
  (λ_=>.bad 23)
  (λ_ _=>.bad 23)
  (λ_ _ _=>.bad 23)
  (λ_ _ _=>.bad 23)
  (λk=>k true)
  (λ_ _ k=>k false)
  (λ_=>.bad 23)
  (λ_ _ _ _ _=>.bad 23)
  (λ_ _ _ _ _=>.bad 23)
  (λ_=>.bad 23)
  (λ_=>.bad 23)
  (λ_ _=>.bad 23)
  (λ_=>.bad 23)
  (λ_ _ _ _ _ _=>.bad 23)
  (λ_ _=>.bad 23)
  (λ_=>.bad 23)
  (λ_ _ _ _=>.bad 23)
  (λ_ _ _=>.bad 23)
  (λ_ _ _=>.bad 23)
  ⟨⟩ (λ_ _ _ _=>⟨⟩)
def aKc:V->T O->Q->Nat->(Bool->AA)->AA :=
 @V.rec (λ_=>T O->Q->Nat->(Bool->AA)->AA) (λ_=>PUnit)
  (λ_ _ _ _=>.bad 24)
  (λ_ _ _ _ _=>.bad 24)
  (λ_ _ _ _ _ _=>.bad 24)
  (λ_ _ _ _ _ _=>.bad 24)
  (λ_ _ _ k=>k false)
  (λo off h p a k=>RW h p a o off k)
  (λ_ _ _ _=>.bad 24)
  (λ_ _ _ _ _ _ _ _=>.bad 24)
  (λ_ _ _ _ _ _ _ _=>.bad 24)
  (λ_ _ _ _=>.bad 24)
  (λ_ _ _ _=>.bad 24)
  (λ_ _ _ _ _=>.bad 24)
  (λ_ _ _ _=>.bad 24)
  (λ_ _ _ _ _ _ _ _ _=>.bad 24)
  (λ_ _ _ _ _=>.bad 24)
  (λ_ _ _ _=>.bad 24)
  (λ_ _ _ _ _ _ _=>.bad 24)
  (λ_ _ _ _ _ _=>.bad 24)
  (λ_ _ _ _ _ _=>.bad 24)
  ⟨⟩ (λ_ _ _ _=>⟨⟩)
def aGA:V->T O->V->(Bool->AA)->AA :=
 @V.rec (λ_=>T O->V->(Bool->AA)->AA) (λ_=>PUnit)
  (λ_ _ _=>.bad 25)
  (λ_ _ _ _=>.bad 25)
  (λ_ _ _ _ _=>.bad 25)
  (λ_ _ _ _ _=>.bad 25)
  (λ_ y k=>aKb y k)
  (λo off h y k=>aKc y h o off k)
  (λ_ _ _=>.bad 25)
  (λ_ _ _ _ _ _ _=>.bad 25)
  (λ_ _ _ _ _ _ _=>.bad 25)
  (λ_ _ _=>.bad 25)
  (λ_ _ _=>.bad 25)
  (λ_ _ _ _=>.bad 25)
  (λ_ _ _=>.bad 25)
  (λ_ _ _ _ _ _ _ _=>.bad 25)
  (λ_ _ _ _=>.bad 25)
  (λ_ _ _=>.bad 25)
  (λ_ _ _ _ _ _=>.bad 25)
  (λ_ _ _ _ _=>.bad 25)
  (λ_ _ _ _ _=>.bad 25)
  ⟨⟩ (λ_ _ _ _=>⟨⟩)
def aPP:V->Nat->Nat->Nat->AO :=
 @V.rec (λ_=>Nat->Nat->Nat->AO) (λ_=>PUnit)
  (λ_ _ _ _=>.bad 45)
  (λ_ _ _ _ _=>.bad 45)
  (λ_ _ _ _ _ _=>.bad 45)
  (λ_ _ _ _ _ _=>.bad 45)
  (λ_ _ _ _=>.bad 45)
  (λ_ _ _ _ _ _=>.bad 45)
  (λ_ lo hi k=>CV (mY (Nat.beq lo (nat_lit 0)) (Nat.beq hi (nat_lit 0))) 40 (k .nils))
  (λo off _ cap sz lo hi k=>Yd o off cap sz lo hi k)
  (λo off len z sz lo hi k=>CV (Nat.beq sz z) 43 (Yc o off len sz lo hi k))
  (λ_ lo hi k=>CV (mY (Nat.beq lo (nat_lit 0)) (Nat.beq hi (nat_lit 0))) 45 (k .se))
  (λ_ _ _ _=>.bad 45)
  (λ_ _ _ _ _=>.bad 45)
  (λ_ _ _ _=>.bad 45)
  (λ_ _ _ _ _ _ _ _ _=>.bad 45)
  (λ_ _ _ _ _=>.bad 45)
  (λ_ _ _ _=>.bad 45)
  (λ_ _ _ _ _ _ _=>.bad 45)
  (λ_ _ _ _ _ _=>.bad 45)
  (λ_ _ _ _ _ _=>.bad 45)
  ⟨⟩ (λ_ _ _ _=>⟨⟩)
def Z9:V->AO :=
 @V.rec (λ_=>AO) (λ_=>PUnit)
  (λ_=>.bad 114)
  (λ_ _=>.bad 114)
  (λ_ _ _=>.bad 114)
  (λ_ _ _=>.bad 114)
  (λ_=>.bad 114)
  (λ_ _ _=>.bad 114)
  (λk=>k .nilp)
  (λo off len _ k=>Zr len o off k)
  (λo off len _ k=>Zr len o off k)
  (λ_=>.bad 114)
  (λ_=>.bad 114)
  (λ_ _=>.bad 114)
  (λ_=>.bad 114)
  (λ_ _ _ _ _ _=>.bad 114)
  (λ_ _=>.bad 114)
  (λ_=>.bad 114)
  (λ_ _ _ _=>.bad 114)
  (λ_ _ _=>.bad 114)
  (λ_ _ _=>.bad 114)
  ⟨⟩ (λ_ _ _ _=>⟨⟩)
def zu:V->Nat->T O->(Nat->List V->AA)->AA :=
 @V.rec (λ_=>Nat->T O->(Nat->List V->AA)->AA) (λ_=>PUnit)
  (λ_ _ _=>.bad 62)
  (λ_ _ _ _=>.bad 62)
  (λ_ _ _ _ _=>.bad 62)
  (λl n sz _ k=>CV (Nat.beq sz (nat_lit 1)) 62 (RG l n λcs=>k l cs))
  (λ_ _ _=>.bad 62)
  (λ_ _ _ _ _=>.bad 62)
  (λ_ _ k=>k (nat_lit 0) [])
  (λo off len _ sz h k=>Ss len sz h o off k)
  (λo off len _ sz h k=>Ss len sz h o off k)
  (λ_ _ k=>k (nat_lit 0) [])
  (λ_ _ _=>.bad 62)
  (λ_ _ _ _=>.bad 62)
  (λ_ _ _=>.bad 62)
  (λ_ _ _ _ _ _ _ _=>.bad 62)
  (λ_ _ _ _=>.bad 62)
  (λ_ _ _=>.bad 62)
  (λ_ _ _ _ _ _=>.bad 62)
  (λ_ _ _ _ _=>.bad 62)
  (λ_ _ _ _ _=>.bad 62)
  ⟨⟩ (λ_ _ _ _=>⟨⟩)
def Zb:V->Nat->Nat->Nat->List V->T O->Q->Kw->AA :=
 @V.rec (λ_=>Nat->Nat->Nat->List V->T O->Q->Kw->AA) (λ_=>PUnit)
  (λ_ _ _ _ _ _ _=>.bad 66)
  (λ_ _ _ _ _ _ _ _=>.bad 66)
  (λ_ _ _ _ _ _ _ _ _=>.bad 66)
  (λ_ _ _ _ _ _ _ _ _=>.bad 66)
  (λ_ _ _ _ _ _ _=>.bad 66)
  (λ_ _ _ _ _ _ _ _ _=>.bad 66)
  (λty sz m new h nx k=>apN m ty sz new h nx k)
  (λo off len cap ty sz m new h nx k=>YA o off len cap ty sz m new h nx k)
  (λo off len z ty sz m new h nx k=>CV (Nat.beq sz z) 63 (aNX m o off len ty sz new h nx k))
  (λ_ _ _ _ _ _ _=>.bad 66)
  (λ_ _ _ _ _ _ _=>.bad 66)
  (λ_ _ _ _ _ _ _ _=>.bad 66)
  (λ_ _ _ _ _ _ _=>.bad 66)
  (λ_ _ _ _ _ _ _ _ _ _ _ _=>.bad 66)
  (λ_ _ _ _ _ _ _ _=>.bad 66)
  (λ_ _ _ _ _ _ _=>.bad 66)
  (λ_ _ _ _ _ _ _ _ _ _=>.bad 66)
  (λ_ _ _ _ _ _ _ _ _=>.bad 66)
  (λ_ _ _ _ _ _ _ _ _=>.bad 66)
  ⟨⟩ (λ_ _ _ _=>⟨⟩)
def Za:V->Nat->List V->T O->Q->Kw->AA :=
 @V.rec (λ_=>Nat->List V->T O->Q->Kw->AA) (λ_=>PUnit)
  (λ_ _ _ _ _=>.bad 73)
  (λ_ _ _ _ _ _=>.bad 73)
  (λ_ _ _ _ _ _ _=>.bad 73)
  (λ_ _ _ _ _ _ _=>.bad 73)
  (λ_ _ _ _ _=>.bad 73)
  (λ_ _ _ _ _ _ _=>.bad 73)
  (λ_ _ _ _ _=>.bad 73)
  (λo off _ _ n0 new h nx k=>M3 o off new h λh'=>k (.int .i64 (.ofNat n0)) h' nx)
  (λo off _ _ n0 new h nx k=>M3 o off new h λh'=>k (.int .i64 (.ofNat n0)) h' nx)
  (λ_ _ _ _ _=>.bad 73)
  (λ_ _ _ _ _=>.bad 73)
  (λ_ _ _ _ _ _=>.bad 73)
  (λ_ _ _ _ _=>.bad 73)
  (λ_ _ _ _ _ _ _ _ _ _=>.bad 73)
  (λ_ _ _ _ _ _=>.bad 73)
  (λ_ _ _ _ _=>.bad 73)
  (λ_ _ _ _ _ _ _ _=>.bad 73)
  (λ_ _ _ _ _ _ _=>.bad 73)
  (λ_ _ _ _ _ _ _=>.bad 73)
  ⟨⟩ (λ_ _ _ _=>⟨⟩)
def Z8:V->Bool->Nat->V->AO :=
 @V.rec (λ_=>Bool->Nat->V->AO) (λ_=>PUnit)
  (λ_ _ _ _=>.bad 121)
  (λ_ _ _ _ _=>.bad 121)
  (λ_ _ _ _ _ _=>.bad 121)
  (λ_ _ _ _ _ _=>.bad 121)
  (λ_ _ _ _=>.bad 121)
  (λ_ _ _ _ _ _=>.bad 121)
  (λ_ _ _ _=>.bad 121)
  (λ_ _ _ _ _ _ _ _=>.bad 121)
  (λ_ _ _ _ _ _ _ _=>.bad 121)
  (λ_ _ _ _=>.bad 121)
  (λ_ _ _ _=>.bad 121)
  (λ_ _ _ _ _=>.bad 121)
  (λ_ _ _ _=>.bad 121)
  (λ_ _ _ _ _ _ _ _ _=>.bad 121)
  (λ_ _ _ _ _=>.bad 121)
  (λHM _ z k=>XJ HM z k)
  (λt u _ HM tt z k=>YW HM tt z t u k)
  (λ_ _ _ _ _ _=>.bad 121)
  (λ_ _ _ _ _ _=>.bad 121)
  ⟨⟩ (λ_ _ _ _=>⟨⟩)
def XU:V->(Nat->V->AA)->AA :=
 @V.rec (λ_=>(Nat->V->AA)->AA) (λ_=>PUnit)
  (λ_=>.bad 123)
  (λ_ _=>.bad 123)
  (λ_ _ _=>.bad 123)
  (λ_ _ _=>.bad 123)
  (λ_=>.bad 123)
  (λ_ _ _=>.bad 123)
  (λ_=>.bad 123)
  (λ_ _ _ _ _=>.bad 123)
  (λ_ _ _ _ _=>.bad 123)
  (λ_=>.bad 123)
  (λ_=>.bad 123)
  (λ_ _=>.bad 123)
  (λ_=>.bad 123)
  (λ_ _ _ _ _ _=>.bad 123)
  (λ_ _=>.bad 123)
  (λ_=>.bad 123)
  (λt u _ k=>k t u)
  (λ_ _ _=>.bad 123)
  (λ_ _ _=>.bad 123)
  ⟨⟩ (λ_ _ _ _=>⟨⟩)
def xC(v:V):Xg:=λ_ k=>k v
def aPX:Xg:=λ_ _=>.bad 2
def ZY:Xs:=λ_ k=>k []
def ZZ(g:Xg)(r:Xs):Xs:=λtm k=>g tm λv=>r tm λl=>k (v::l)
def ptN:Dt:=λ_ t k=>k t
abbrev Bd:=T V->List V->(List V->AA)->AA
def bdN:Bd:=λ_ l k=>k l
def Wo(off n:Nat)(g:Xg)(r:Bd):Bd:=λtm l k=>g tm λv=>O9 v λc=>sq c λm=>CV (Nat.beq m n) 28 (aJY l off c λl'=>r tm l' k)
abbrev Og:=T V->Nat->(Nat->AA)->AA
def ogN:Og:=λ_ d k=>k d
def Ux(g:Xg):Og:=λtm _ k=>g tm λv=>vN v k
abbrev Sg:=T V->T V->(T V->AA)->AA
def Zq:Sg:=λ_ t k=>k t
def Uj(i sz:Nat)(g:Xg)(r:Sg):Sg:=λtm t k=>g tm λv=>O9 v λc=>sq c λm=>CV (Nat.beq m sz) 57 (sD c (Nat.mul i sz) t λt'=>r tm t' k)
def pMv(g:Xg):Pg:=λtm _ k=>g tm k
def Y5(c x y:Xg):Pg:=λtm _ k=>c tm λv=>vB v λt=>@Bool.rec (λ_=>Xg->Xg->Xg) (λ_ y=>y) (λx _=>x) t x y tm k
def Xa(op:BinOp)(x y:Xg):Pg:=λtm _ k=>x tm λa=>y tm λb=>aPO a op b k
def pQ(w:V->(Bool->AA)->AA)(neg:Bool)(x y:Xg):Pg:=λtm _ k=>x tm λa=>y tm λ_=>w a λt=>SN neg t k
def TH(neg:Bool)(x y:Xg):Pg:=λtm _ k=>x tm λa=>y tm λb=>vB a λp=>vB b λq=>SN neg (YQ p q) k
def TG(neg:Bool)(x y:Xg):Pg:=λtm h k=>x tm λa=>y tm λb=>aGA a h b λt=>SN neg t k
def Ww(x:Xg):Pg:=λtm _ k=>x tm λv=>vB v λt=>bF (uE t) k
def Wx(x:Xg):Pg:=λtm _ k=>x tm λv=>vI v λkd n=>au (TZ (.ofNat (nat_lit 0)) n) kd k
def XI(kd:IntKind)(x:Xg):Pg:=λtm _ k=>x tm λv=>vI v λ_ n=>au n kd k
def XH(x:Xg):Pg:=λtm _ k=>x tm λv=>vS v λl n=>k (.str l n)
def X8(x:Xg):Pg:=λtm _ k=>x tm λv=>vN v λn=>CV (Nat.ble (Nat.succ n) (nat_lit 128)) 113 (k (.str (nat_lit 1) n))
def X9(z:List V)(b:Bd):Pg:=λtm _ k=>b tm z λl=>k (.agg l)
def XD(x:Xg):Pg:=λtm h k=>x tm λv=>vP v λo off=>Oy h o off k
def XC(n:Nat)(x:Xg):Pg:=λtm h k=>x tm λv=>vP v λo off=>OS h o off n λl=>k (.agg l)
def Wy(x:Xg):Pg:=λtm _ k=>x tm λv=>aPQ v k
def Uu(off:Nat)(x:Xg):Pg:=λtm _ k=>x tm λv=>vP v λo a=>fN (Nat.add a off) λa'=>k (.ptr o a')
def Us(agg:Bool)(off n:Nat)(x:Xg):Pg:=λtm _ k=>x tm λv=>vA v λl=>We agg off n l k
def Ur(sz:Nat)(x i:Xg):Pg:=λtm _ k=>x tm λv=>i tm λj=>vN j λj=>aKa v sz j k
def XG(len sz:Nat)(x i:Xg):Pg:=λtm _ k=>x tm λv=>i tm λj=>vN j λj=>vP v λo a=>CV (Nat.ble (Nat.succ j) len) 49 (fN (Nat.add a (Nat.mul j sz)) λa'=>k (.ptr o a'))
def XE(x i:Xg):Pg:=λtm _ k=>x tm λv=>i tm λj=>vN j λj=>vS v λl n=>CV (Nat.ble (Nat.succ j) l) 50 (fN (Nat.mod (Nat.div n (RQ j)) (nat_lit 256)) λc=>k (.int .u8 (.ofNat c)))
def XF(agg:Bool)(len sz:Nat)(x i:Xg):Pg:=λtm _ k=>x tm λv=>i tm λj=>vN j λj=>vA v λl=>CV (Nat.ble (Nat.succ j) len) 51 (fN (Nat.mul j sz) λa=>We agg a sz l k)
def Wu(x:Xg)(lo hi:Og):Pg:=λtm _ k=>x tm λv=>vS v λl n=>lo tm (nat_lit 0) λa=>hi tm l λb=>CV (mY (Nat.ble a b) (Nat.ble b l)) 52 (fN (Nat.sub b a) λl'=>fN (Nat.mod (Nat.div n (RQ a)) (RQ (Nat.sub b a))) λn'=>k (.str l' n'))
def Wv(sz:Nat)(x:Xg)(lo hi:Og):Pg:=λtm _ k=>x tm λv=>Tc v λlen=>lo tm (nat_lit 0) λa=>hi tm len λb=>aPP v sz a b k
def Wz(t:Nat)(x:Xg):Pg:=λtm _ k=>x tm λv=>k (.ifc t v)
def XA(f:Q)(a b:Xs):Pg:=λtm _ k=>a tm λl=>b tm λm=>k (.fn f l m)
def KI:KK->T O->V->V->(Bool->AA)->AA :=
 @KK.rec (λ_=>T O->V->V->(Bool->AA)->AA)
  (λ_ x y k=>O5 x (nat_lit 35) λl n=>O5 y (nat_lit 32) λm j=>k (mY (Nat.beq l m) (Nat.beq n j)))
  (λ_ x y k=>O7 x (nat_lit 35) λkd a=>O7 y (nat_lit 34) λHB b=>CV (Nat.beq (mb kd) (mb HB)) 33 (k (ya a b)))
  (λh x y k=>O6 x (nat_lit 35) λo a=>O6 y (nat_lit 34) λo' b=>RW h o a o' b k)
  (λfs h x y k=>eC (.st fs) h x y k)
abbrev Ke:=V->V->(Bool->AA)->AA
def findF:List (V×V)->Ke->V->(V->AA)->AA->AA :=
 @List.rec (V×V) (λ_=>Ke->V->(V->AA)->AA->AA) (λ_ _ _ kn=>kn)
  (λp _ ih e x k kn=>@Prod.rec V V (λ_=>(Ke->V->(V->AA)->AA->AA)->Ke->V->(V->AA)->AA->AA) (λy v ih e x k kn=>e x y λb=>IP b (k v) (ih e x k kn)) p ih e x k kn)
abbrev Ku:=List (V×V)->Nat->V->AA
abbrev Ut:=Ke->V->(V->V)->V->Nat->Ku->AA
def TW:List (V×V)->Ut :=
 @List.rec (V×V) (λ_=>Ut) (λ_ x f z i k=>k [(x,f z)] i z)
  (λp es ih e x f z i k=>@Prod.rec V V (λ_=>List (V×V)->Ut->Ut)
   (λy u es ih e x f z i k=>e x y λb=>@Bool.rec (λ_=>V->V->List (V×V)->Ut->Ut) (λy u _ ih e x f z i k=>fN (Nat.succ i) λi'=>ih e x f z i' λes' j w=>k ((y,u)::es') j w) (λ_ u es _ _ x f _ i k=>k ((x,f u)::es) i u) b y u es ih e x f z i k) p es ih e x f z i k)
def SP:KK->V->AA->AA:=@KK.rec (λ_=>V->AA->AA) (λ_ k=>k) (λ_ k=>k) (λ_ k=>k) (λfs x k=>hY (.st fs) x k)
def aEW(ok:Bool)(z:V)(k:V->AA):AA:=@Bool.rec (λ_=>V->AO) (λz k=>k z) (λz k=>k (.tup [z,.bool false])) ok z k
def Uq(s:KK)(ok:Bool)(z:V)(m key:Xg):Pg:=λtm h k=>m tm λm=>key tm λx=>SP s x (vM m (nat_lit 53) (λo=>F7 o h λob=>R8 ob λes=>findF es (KI s h) x (λv=>aJN ok v k) (aEW ok z k)) (aEW ok z k))
def Y6(x:Xg):Pg:=λtm _ k=>x tm λv=>vS v λl _=>k (.int .i64 (.ofNat l))
def Y8(x:Xg):Pg:=λtm _ k=>x tm λv=>Tc v λl=>k (.int .i64 (.ofNat l))
def Y7(x:Xg):Pg:=λtm h k=>x tm λv=>vM v (nat_lit 54) (λo=>F7 o h λob=>R8 ob λes=>sq es λn=>k (.int .i64 (.ofNat n))) (k (.int .i64 (.ofNat (nat_lit 0))))
def Up(x:Xg):Pg:=λtm _ k=>x tm λv=>Z9 v k
def XB(x y:Xg):Pg:=λtm _ k=>x tm λa=>y tm λb=>vI a λka n=>vI b λ_ m=>IP (KG m n) (k (.int ka n)) (k (.int ka m))
def Uv(i:Nat)(x:Xg):Pg:=λtm _ k=>x tm λv=>vT v λl=>X2 l i k
def Uo(ok:Bool)(t:Nat)(z:V)(x:Xg):Pg:=λtm _ k=>x tm λv=>Z8 v ok t z k
def ui(b:PB):Pg:=λtm h k=>pK b tm h k
def aAl(ty n:Nat)(t:T V):Ag:=λ_ k=>k (.row n t [] (nat_lit 0) ty true) λq=>.ptr q (nat_lit 0)
def ZQ(ty n:Nat)(x:Xg):Ag:=λtm k=>x tm λv=>O9 v λc=>sq c λm=>CV (Nat.beq m n) 58 (sD c (nat_lit 0) .nil λt=>k (.row n t [] (nat_lit 0) ty true) λq=>.ptr q (nat_lit 0))
def Xw(ty sz len:Nat)(t:T V)(g:Sg):Ag:=λtm k=>g tm t λt'=>fN (Nat.mul len sz) λn=>k (.row n t' [] (nat_lit 0) ty true) λq=>.sl q (nat_lit 0) len len
def aNm:Ag:=λ_ k=>k (.map []) λq=>.map q
def aJq(b:AB):Ag:=λtm k=>aK b tm k
def U8(n:Nat)(x y:Xg):Wg:=λtm h nx k=>x tm λp=>vP p λo off=>y tm λv=>O9 v λc=>sq c λm=>CV (Nat.beq m n) 67 (M3 o off c h λh'=>k V.undef h' nx)
def Ua(s:KK)(m key x:Xg):Wg:=λtm h nx k=>m tm λm=>key tm λkv=>x tm λv=>SP s kv (vM m (nat_lit 68) (λo=>F7 o h λob=>R8 ob λes=>TW es (KI s h) kv (λ_=>v) v (nat_lit 0) λes' _ _=>aJ6 ob es' λOv=>ES o Ov h λh'=>k V.undef h' nx) (.bad 68))
def Ub(s:KK)(z:V)(m key:Xg):Wg:=λtm h nx k=>m tm λm=>key tm λkv=>SP s kv (vM m (nat_lit 69) (λo=>F7 o h λob=>aJP ob λes=>TW es (KI s h) kv (λu=>u) z (nat_lit 0) λes' i u=>ES o (.map es') h λh'=>k (.tup [u,.int .i64 (.ofNat i)]) h' nx) (.bad 69))
def Ud(ty sz:Nat)(x y:Xg):Wg:=λtm h nx k=>x tm λa=>y tm λb=>zu b sz h λm new=>CV (Nat.ble m (nat_lit 16777216)) 71 (Zb a ty sz m new h nx k)
def Uc(sz:Nat)(x y:Xg):Wg:=λtm h nx k=>x tm λa=>y tm λb=>Tc a λn=>zu b sz h λm new=>CV (Nat.beq n m) 72 (Za a n new h nx k)
def U9(x:Xg):Wg:=λtm h nx k=>x tm λv=>vS v λl n=>RG l n λcs=>sD cs (nat_lit 0) .nil λt=>ES nx (.ro l t) h λh'=>Hx nx λnx'=>k (.su nx (nat_lit 0) l (nat_lit 1)) h' nx'
def YX(b:WB):Wg:=λtm h nx k=>wK b tm h nx k
def OZ(l:Q)(j:Jump)(st:Nat)(b:Bool)(ky:Kr)(s:S):AA :=
 @S.rec (λ_=>AA) (λh nx _=>F7 l h λob=>qA ob λ_ _ fn tm params BW body B8=>ES l (.loop (.mk st j fn tm params BW body B8)) h λh'=>ky (.bool b) h' nx) s
def UW:List (Nat×St)->Nat->St->St :=
 @List.rec (Nat×St) (λ_=>Nat->St->St) (λ_ kn=>kn)
  (λp _ ih id kn=>@Prod.rec Nat St (λ_=>(Nat->St->St)->Nat->St->St) (λi U ih id kn=>@Bool.rec (λ_=>St->(Nat->St->St)->Nat->St->St) (λ_ ih id kn=>ih id kn) (λU _ _ _=>U) (Nat.beq i id) U ih id kn) p ih id kn)
def aOP:Nat->Kr->St:=λ_ _ _ _=>.bad 94
def aJL(l:Q):Nat->Kr->St:=λid ky _ s=>OZ l (.exit id) (nat_lit 2) false ky s
def Yb:Cx->Nat->St :=
 @Cx.rec (λ_=>Nat->St) λ_ _ rd env _ ky id=>UW env id (@Option.rec Q (λ_=>Nat->Kr->St) aOP aJL rd id ky)
def XN:Cx->St :=
 @Cx.rec (λ_=>St) λ_ _ rd _ kr ky=>@Option.rec Q (λ_=>St->Kr->St) (λkr _=>kr) (λl _ ky _ s=>OZ l .ret (nat_lit 2) false ky s) rd kr ky
def aJ0:Jump->Cx->St->St:=@Jump.rec (λ_=>Cx->St->St) (λ_ U=>U) (λcx _=>XN cx) (λid cx _=>Yb cx id)
def re(cx:Cx)(l:Q)(U:St)(tm:T V)(h:T O)(nx:Q)(ds:List Df):AA :=
 F7 l h λob=>qA ob λst pend fn BA params BW body B8=>CV (uE (Nat.beq st (nat_lit 1))) 102 (ES l (.loop (.mk (nat_lit 3) pend fn BA params BW body B8)) h λh'=>aJ0 pend cx U tm ⟨h',nx,ds⟩)
def v7:Cx->Cl:=@Cx.rec (λ_=>Cl) λcl _ _ _ _ _=>cl
def rfO(g:Xg)(params:List Q)(BW body:C):Op:=λcx U tm s =>
 g tm λfv=>@S.rec (λ_=>AA) (λh nx ds=>O8 fv (λg fs caps=>@Option.rec Q (λ_=>AA)
   (Hx nx λn1=>sU fs (.yld n1::caps) λargs=>ES nx (.dfd false) h λh1=>ES n1 (.loop (.mk (nat_lit 0) .none cx.f tm params BW body nx)) h1 λh2=>Hx n1 λn2 =>
     v7 cx (.fn g [] []) args false h2 n2 λ_ h nx'=>re cx n1 U tm h nx' (.coll nx::ds))
   (λl=>sU fs (.yld nx::caps) λargs=>F7 l h λob=>qA ob λ_ _ _ _ _ _ _ B8=>ES nx (.loop (.mk (nat_lit 0) .none cx.f tm params BW body B8)) h λh2=>Hx nx λn2 =>
     v7 cx (.fn g [] []) args false h2 n2 λ_ h nx'=>re cx nx U tm h nx' ds) cx.rd)
  (λ_=>.bad 95)) s
def opP(p:Pg)(d:Dt):Op:=λ_ U tm s=>p tm s.h λv=>d v tm λBA=>U BA s
def opA(a:Ag)(d:Dt):Op:=λ_ U tm s=>@S.rec (λ_=>Ag->Dt->St->T V->AA) (λh nx ds a d U tm=>a tm λob mk=>ES nx ob h λh'=>d (mk nx) tm λBA=>Hx nx λnx'=>U BA ⟨h',nx',ds⟩) s a d U tm
def opW(w:Wg)(d:Dt):Op:=λ_ U tm s=>@S.rec (λ_=>Wg->Dt->St->T V->AA) (λh nx ds w d U tm=>w tm h nx λv h' nx'=>d v tm λBA=>U BA ⟨h',nx',ds⟩) s w d U tm
def aFh(g:Xg)(gs:Xs)(d:Dt):Op:=λcx U tm s=>g tm λfv=>gs tm λvs=>@S.rec (λ_=>Cl->V->List V->Dt->St->T V->AA) (λh nx ds cl fv vs d U tm=>cl fv vs false h nx λv h' nx'=>d v tm λBA=>U BA ⟨h',nx',ds⟩) s (v7 cx) fv vs d U tm
def UU:List (Nat×Q)->Nat->(Q->AA)->AA :=
 @List.rec (Nat×Q) (λ_=>Nat->(Q->AA)->AA) (λ_ _=>.bad 122) (λp _ ih t k=>@Prod.rec Nat Q (λ_=>(Nat->(Q->AA)->AA)->Nat->(Q->AA)->AA) (λu f ih t k=>IP (Nat.beq u t) (k f) (ih t k)) p ih t k)
def aJW(ms:List (Nat×Q))(g:Xg)(gs:Xs)(d:Dt):Op:=λcx U tm s=>g tm λv=>gs tm λvs=>XU v λt u=>UU ms t λf=>@S.rec (λ_=>AA) (λh nx ds=>v7 cx (.fn f [] []) (u::vs) false h nx λv h' nx'=>d v tm λBA=>U BA ⟨h',nx',ds⟩) s
def Y0(g:Xg)(gs:Xs)(d:Dt):Op:=λcx U tm s=>(match cx.rd with
 |some _=>.bad 89
 |none=>g tm λfv=>gs tm λvs=>(match fv with
  |.fn g fs caps=>vX vs caps λB7=>vX fs B7 λB7=>d V.undef tm λBA=>@S.rec (λ_=>AA) (λh nx ds=>U BA ⟨h,nx,.call g B7::ds⟩) s
  |_=>.bad 90))
def Y1(k:KK)(m key:Xg)(d:Dt):Op:=λcx U tm s=>(match cx.rd with
 |some _=>.bad 89
 |none=>m tm λm=>key tm λkv=>d V.undef tm λBA=>@S.rec (λ_=>AA) (λh nx ds=>U BA ⟨h,nx,.del k m kv::ds⟩) s)
def YZ(d:Dt):Op:=λcx U tm s=>(match cx.rd with
 |some _=>.bad 91
 |none=>d .nili tm λBA=>U BA s)
def Uw(g:Xg)(w:Bool)(o:Op)(d:Dt):Op:=λcx U tm s=>g tm λv=>aq v w (o cx U) (λtm s=>d V.undef tm λBA=>U BA s) tm s
def r7(p:Pg)(g:Xg):Op:=λ_ U tm s=>p tm s.h λv=>g tm λu=>CV (MW v u) 93 (U tm s)
def mw(g:Xg)(w:Bool)(o:Op):Op:=λcx U tm s=>g tm λv=>aq v w (o cx U) U tm s
def opI:Op:=λ_ U=>U
def A9(f g:Op):Op:=λcx U tm s=>f cx (g cx U) tm s
def opC(x:Xg)(f g:Op):Op:=λcx U tm s=>x tm λv=>YS v (f cx U) (g cx U) tm s
def opB(id:Nat)(o:Op):Op:=λcx U=>@Cx.rec (λ_=>Nat->Op->St->St) (λcl f rd env kr ky id o U=>o ⟨cl,f,rd,(id,U)::env,kr,ky⟩ U) cx id o U
def opL(o:Op):Op:=λcx _=>@Nat.rec (λ_=>St) eZ (λ_ again=>o cx again) (nat_lit 1000000)
def opE(id:Nat):Op:=λcx _=>Yb cx id
def opR:Op:=λcx _=>XN cx
def nV:Op:=λ_ _ _ _=>.bad 210
def RM:QN Q5->((T6 V->AO)->D)->D:=@QN.rec Q5 (λ_=>((T6 V->AO)->D)->D) (λk=>k Wj) (λ_ _=>⟨nV⟩) (λ_ _=>⟨nV⟩) (λ_ _=>⟨nV⟩) (λ_ _=>⟨nV⟩)
def Oq:QN Q5->(Iw->D)->D:=@QN.rec Q5 (λ_=>(Iw->D)->D) (λk=>k VB) (λ_ _=>⟨nV⟩) (λ_ _=>⟨nV⟩) (λ_ _=>⟨nV⟩) (λ_ _=>⟨nV⟩)
def RL:QN Q6->((T7 V->AO)->D)->D:=@QN.rec Q6 (λ_=>((T7 V->AO)->D)->D) (λk=>k Wi) (λq k=>RM q λg=>k (Tb g)) (λq k=>RM q λg=>k (Ta g)) (λq k=>RM q λg=>k (TF g)) (λq k=>RM q λg=>k (TE g))
def Oo:QN Q6->(Iv->D)->D:=@QN.rec Q6 (λ_=>(Iv->D)->D) (λk=>k VA) (λq k=>Oq q λg=>k (TV g)) (λq k=>Oq q λg=>k (TU g)) (λq k=>Oq q λg=>k (TT g)) (λq k=>Oq q λg=>k (TS g))
def RJ:QN Q7->((T8 V->AO)->D)->D:=@QN.rec Q7 (λ_=>((T8 V->AO)->D)->D) (λk=>k Wh) (λq k=>RL q λg=>k (TD g)) (λq k=>RL q λg=>k (TC g)) (λq k=>RL q λg=>k (TB g)) (λq k=>RL q λg=>k (TA g))
def On:QN Q7->(Iu->D)->D:=@QN.rec Q7 (λ_=>(Iu->D)->D) (λk=>k Uz) (λq k=>Oo q λg=>k (TP g)) (λq k=>Oo q λg=>k (TO g)) (λq k=>Oo q λg=>k (TN g)) (λq k=>Oo q λg=>k (TM g))
def RI:QN Q8->((T9 V->AO)->D)->D:=@QN.rec Q8 (λ_=>((T9 V->AO)->D)->D) (λk=>k Wf) (λq k=>RJ q λg=>k (Sz g)) (λq k=>RJ q λg=>k (Sy g)) (λq k=>RJ q λg=>k (Sx g)) (λq k=>RJ q λg=>k (Sw g))
def Om:QN Q8->(It->D)->D:=@QN.rec Q8 (λ_=>(It->D)->D) (λk=>k Uy) (λq k=>On q λg=>k (TK g)) (λq k=>On q λg=>k (TJ g)) (λq k=>On q λg=>k (TI g)) (λq k=>On q λg=>k (Td g))
def ft:QN Q9->((N5 V (T9 V)->AO)->D)->D:=@QN.rec Q9 (λ_=>((N5 V (T9 V)->AO)->D)->D) (λk=>k XZ) (λq k=>RI q λg=>k (UJ g)) (λq k=>RI q λg=>k (UI g)) (λq k=>RI q λg=>k (UH g)) (λq k=>RI q λg=>k (UG g))
def XQ:QN Q9->(Ro->D)->D:=@QN.rec Q9 (λ_=>(Ro->D)->D) (λk=>k X1) (λq k=>Om q λg=>k (UD g)) (λq k=>Om q λg=>k (UC g)) (λq k=>Om q λg=>k (UB g)) (λq k=>Om q λg=>k (UA g))
def cX:X->(Xg->D)->D:=@X.rec (λ_=>(Xg->D)->D) (λq k=>ft q λg=>k g) (λv k=>k (xC v)) (λk=>k aPX)
def OM:List X->(Xs->D)->D:=@List.rec X (λ_=>(Xs->D)->D) (λk=>k ZY) (λx _ ih k=>cX x λg=>ih λr=>k (ZZ g r))
def aOp:Option Q->(Dt->D)->D:=@Option.rec Q (λ_=>(Dt->D)->D) (λk=>k ptN) (λq k=>XQ q λp=>k p)
def RF:Option X->(Og->D)->D:=@Option.rec X (λ_=>(Og->D)->D) (λk=>k ogN) (λx k=>cX x λg=>k (Ux g))
def cBd:List (Nat×Nat×X)->(Bd->D)->D:=@List.rec (Nat×Nat×X) (λ_=>(Bd->D)->D) (λk=>k bdN)
 (λp _ ih k=>@Prod.rec Nat (Nat×X) (λ_=>D) (λoff nx=>@Prod.rec Nat X (λ_=>D) (λn x=>cX x λg=>ih λr=>k (Wo off n g r)) nx) p)
def cSg(sz:Nat):List (Nat×X)->(Sg->D)->D:=@List.rec (Nat×X) (λ_=>(Sg->D)->D) (λk=>k Zq)
 (λp _ ih k=>@Prod.rec Nat X (λ_=>D) (λi x=>cX x λg=>ih λr=>k (Uj i sz g r)) p)
def cP:PB->(Pg->D)->D :=
 @PB.rec (λ_=>(Pg->D)->D)
  (mv:=λx k=>cX x λg=>k (pMv g))
  (pick:=λc x y k=>cX c λc=>cX x λx=>cX y λy=>k (Y5 c x y))
  (bin:=λop x y k=>cX x λx=>cX y λy=>k (Xa op x y))
  (eq:=λneg m x y k=>cX x λx=>cX y λy=>k (@EqM.rec (λ_=>Pg) (TG neg x y) (TH neg x y) (pQ UL neg x y) (pQ UM neg x y) (pQ UO neg x y) (pQ UN neg x y) m))
  (not:=λx k=>cX x λg=>k (Ww g))
  (neg:=λx k=>cX x λg=>k (Wx g))
  (cvi:=λkd x k=>cX x λg=>k (XI kd g))
  (cvs:=λx k=>cX x λg=>k (XH g))
  (cis:=λx k=>cX x λg=>k (X8 g))
  (ctu:=λx k=>k (ui (.ctu x)))
  (cfu:=λty n x k=>k (ui (.cfu ty n x)))
  (bld:=λz ps k=>cBd ps λb=>k (X9 z b))
  (ld1:=λx k=>cX x λg=>k (XD g))
  (ldn:=λn x k=>cX x λg=>k (XC n g))
  (nck:=λx k=>cX x λg=>k (Wy g))
  (fa:=λoff x k=>cX x λg=>k (Uu off g))
  (fd:=λagg off n x k=>cX x λg=>k (Us agg off n g))
  (ia:=λsz x i k=>cX x λx=>cX i λi=>k (Ur sz x i))
  (iaa:=λlen sz x i k=>cX x λx=>cX i λi=>k (XG len sz x i))
  (ixs:=λx i k=>cX x λx=>cX i λi=>k (XE x i))
  (ixa:=λagg len sz x i k=>cX x λx=>cX i λi=>k (XF agg len sz x i))
  (slS:=λx lo hi k=>cX x λx=>RF lo λlo=>RF hi λhi=>k (Wu x lo hi))
  (slL:=λsz x lo hi mx k=>@Option.rec X (λ_=>D) (cX x λx=>RF lo λlo=>RF hi λhi=>k (Wv sz x lo hi)) (λm=>k (ui (.slL sz x lo hi (some m)))) mx)
  (mki:=λt x k=>cX x λg=>k (Wz t g))
  (mkf:=λf fs caps k=>OM fs λa=>OM caps λb=>k (XA f a b))
  (lk:=λs ok z m key k=>cX m λm=>cX key λkey=>k (Uq s ok z m key))
  (lenS:=λx k=>cX x λg=>k (Y6 g))
  (lenL:=λx k=>cX x λg=>k (Y8 g))
  (lenM:=λx k=>cX x λg=>k (Y7 g))
  (sd:=λx k=>cX x λg=>k (Up g))
  (max:=λx y k=>cX x λx=>cX y λy=>k (XB x y))
  (ex:=λi x k=>cX x λg=>k (Uv i g))
  (ta:=λok t z x k=>cX x λg=>k (Uo ok t z g))
  (bad:=λk=>k (ui .bad))
def cA:AB->(Ag->D)->D :=
 @AB.rec (λ_=>(Ag->D)->D)
  (al:=λty n t k=>k (aAl ty n t))
  (bx:=λty n x k=>cX x λg=>k (ZQ ty n g))
  (bsl:=λty sz len t ps k=>cSg sz ps λg=>k (Xw ty sz len t g))
  (mkm:=λk=>k aNm)
  (mks:=λty sz z len cap k=>k (aJq (.mks ty sz z len cap)))
def cW:WB->(Wg->D)->D :=
 @WB.rec (λ_=>(Wg->D)->D)
  (st:=λn x y k=>cX x λx=>cX y λy=>k (U8 n x y))
  (mu:=λs m x v k=>cX m λm=>cX x λx=>cX v λv=>k (Ua s m x v))
  (me:=λs z m x k=>cX m λm=>cX x λx=>k (Ub s z m x))
  (es:=λm s v k=>k (YX (.es m s v)))
  (ap:=λty sz x y k=>cX x λx=>cX y λy=>k (Ud ty sz x y))
  (cp:=λsz x y k=>cX x λx=>cX y λy=>k (Uc sz x y))
  (sb:=λx k=>cX x λg=>k (U9 g))
  (us:=λty x n k=>k (YX (.us ty x n)))
def cOB:OB->Dt->(Op->D)->D :=
 @OB.rec (λ_=>Dt->(Op->D)->D)
  (p:=λb d k=>cP b λp=>k (opP p d))
  (a:=λb d k=>cA b λa=>k (opA a d))
  (w:=λb d k=>cW b λw=>k (opW w d))
  (call:=λx args d k=>cX x λg=>OM args λgs=>k (aFh g gs d))
  (inv:=λms x args d k=>cX x λg=>OM args λgs=>k (aJW ms g gs d))
  (dfr:=λx args d k=>cX x λg=>OM args λgs=>k (Y0 g gs d))
  (dfd:=λs m key d k=>cX m λm=>cX key λkey=>k (Y1 s m key d))
  (rcv:=λd k=>k (YZ d))
def cCO:CO->(Op->D)->D :=
 @CO.rec (λ_=>(Op->D)->D) λdst g b k=>aOp dst λd=>cOB b d λo=>@Option.rec (Q×Bool) (λ_=>D) (k o) (λqw=>@Prod.rec Q Bool (λ_=>D) (λq w=>ft q λg=>k (Uw g w o d)) qw) g
def cPS:PS->(Op->D)->D :=
 @PS.rec (λ_=>(Op->D)->D) (λo k=>cCO o k)
  (λg p q k=>cP p λp=>ft q λr=>@Option.rec (Q×Bool) (λ_=>D) (k (r7 p r)) (λqw=>@Prod.rec Q Bool (λ_=>D) (λq w=>ft q λg=>k (mw g w (r7 p r))) qw) g)
def cL:List PS->(Op->D)->D :=
 @List.rec PS (λ_=>(Op->D)->D) (λk=>k opI) (λp _ ih k=>cPS p λo=>ih λr=>k (A9 o r))
def cC:C->(Op->D)->D :=
 @C.rec (λ_=>(Op->D)->D)
  (skip:=λk=>k opI)
  (reg:=λl k=>cL l k)
  (seq:=λ_ _ Me Md k=>Me λa=>Md λb=>k (A9 a b))
  (cond:=λx _ _ Me Md k=>cX x λg=>Me λa=>Md λb=>k (opC g a b))
  (block:=λid _ ih k=>ih λo=>k (opB id o))
  (loop:=λ_ ih k=>ih λo=>k (opL o))
  (rf:=λx params BW body _ _ k=>cX x λg=>k (rfO g params BW body))
  (exit:=λid k=>k (opE id))
  (scope:=λ_ ih k=>ih k)
  (ret:=λk=>k opR)
  (bad:=λk=>k nV)
def KE(c:C):D:=cC c D.mk
def vi:D->Op:=@D.rec (λ_=>Op) λo=>o
def OP:List RV->T V->T O->(List V->AA)->AA :=
 @List.rec RV (λ_=>T V->T O->(List V->AA)->AA) (λ_ _ k=>k [])
  (λr _ ih tm h k=>@RV.rec (λ_=>(T V->T O->(List V->AA)->AA)->T V->T O->(List V->AA)->AA)
   (λq ih tm h k=>MU q tm λv=>ih tm h λl=>k (v::l))
   (λagg n q ih tm h k=>MU q tm λp=>vP p λo off=>@Bool.rec (λ_=>AA) (Oy h o off λv=>ih tm h λl'=>k (v::l')) (OS h o off n λl=>ih tm h λl'=>k (.agg l::l')) agg) r ih tm h k)
def Xb:List V->AO :=
 @List.rec V (λ_=>AO) (λk=>k (.tup [])) (λv r _ k=>@List.rec V (λ_=>V->AO) (λv k=>k v) (λu r _ v k=>k (.tup (v::u::r))) r v k)
abbrev Kn:=T O->Q->AA
def Yw(q:Q)(ih:Kn)(h:T O)(nx:Q):AA:=gO q h λob=>(match ob with
 |.dfd false=>pO (.dfd true) q h λh'=>ih h' nx
 |_=>.bad 97)
def X0(s:KK)(m key:V)(ih:Kn)(h:T O)(nx:Q):AA:=hY s key (match m with
 |.map o=>gO o h λob=>rW ob λes=>ig s h key es λes'=>pO (.mapd es') o h λh'=>ih h' nx
 |_=>.bad 97)
def RZ:List Df->Cl->List RV->Kr->T V->Kn :=
 @List.rec Df (λ_=>Cl->List RV->Kr->T V->Kn) (λ_ rs BC tm h nx=>OP rs tm h λvs=>Xb vs λv=>BC v h nx)
  (λd _ ih cl rs BC tm h nx=>@Df.rec (λ_=>Cl->Kn->T O->Q->AA)
   (λg args cl ih h nx=>cl (.fn g [] []) args true h nx λ_ h' nx'=>ih h' nx')
   (λq _ ih h nx=>Yw q ih h nx)
   (λs m key _ ih h nx=>X0 s m key ih h nx) d cl (ih cl rs BC tm) h nx)
def zg(cl:Cl)(rs:List RV)(BC:Kr):St:=λtm s=>@S.rec (λ_=>Cl->List RV->Kr->T V->AA) (λh nx ds cl rs BC tm=>RZ ds cl rs BC tm h nx) s cl rs BC tm
def cy:List V->Nat->T V->(T V->AA)->AA :=
 @List.rec V (λ_=>Nat->T V->(T V->AA)->AA) (λ_ t k=>k t) (λv _ ih i t k=>Nc (qn i) v t λt'=>ih (Nat.succ i) t' k)
def jo(o:Op)(cl:Cl)(f:Q)(tm:T V)(h:T O)(nx:Q)(kr:St):AA:=o ⟨cl,f,none,[],kr,aJM⟩ kr tm ⟨h,nx,[]⟩
def RE:CF->Cl->Q->List V->Bool->T O->Q->Kr->AA :=
 @CF.rec (λ_=>Cl->Q->List V->Bool->T O->Q->Kr->AA) (λ_ _ _ _ _ _ _=>.bad 83)
  (λbody rs cl f args _ h nx BC=>cy args (nat_lit 0) .nil λtm=>jo (vi (KE body)) cl f tm h nx (zg cl rs BC))
  (λn _ _ args dk h nx BC=>@Bool.rec (λ_=>AA) (jr n args λv=>BC v h nx) (.bad 78) dk)
def XS:List Q->List V->T V->(T V->AA)->AA :=
 @List.rec Q (λ_=>List V->T V->(T V->AA)->AA) (λvs t k=>@List.rec V (λ_=>T V->(T V->AA)->AA) (λt k=>k t) (λ_ _ _ _ _=>.bad 82) vs t k)
  (λq _ ih vs t k=>@List.rec V (λ_=>Q->(List V->T V->(T V->AA)->AA)->T V->(T V->AA)->AA) (λ_ _ _ _=>.bad 82) (λv vs _ q ih t k=>Nc q v t λt'=>ih vs t' k) vs q ih t k)
def aJw(cl:Cl)(l fn:Q)(body:C)(BC:Kr):St:=λtm s=>@S.rec (λ_=>AA) (λh nx ds=>F7 l h λob=>qA ob λst pend F8 BA params BW GS B8=>CV (Nat.beq st (nat_lit 0)) 104 (ES l (.loop (.mk (nat_lit 1) pend F8 BA params BW GS B8)) h λh' =>
 vi (KE body) ⟨cl,fn,some l,[],eZ,BC⟩ (λ_ s=>OZ l .none (nat_lit 0) true BC s) tm ⟨h',nx,ds⟩)) s
def zf(cl:Cl)(l:Q)(args:List V)(h:T O)(nx:Q)(BC:Kr):AA :=
 F7 l h λob=>qA ob λ_ _ fn tm params BW body _=>XS params args tm λBA =>
  vi (KE BW) ⟨cl,fn,some l,[],eZ,BC⟩ (aJw cl l fn body BC) BA ⟨h,nx,[]⟩
def aOx(fe:Q->CF)(cl:Cl):Cl:=λfv args dk h nx BC =>
 O8 fv (λf fs caps=>OY fs args caps λl=>RE (fe f) cl f l dk h nx BC)
  (λl=>@Bool.rec (λ_=>Cl->Q->List V->T O->Q->Kr->AA) zf (λ_ _ _ _ _ _=>.bad 202) dk cl l args h nx BC)
def qm(fe:Q->CF)(n:Nat):Cl:=@Nat.rec (λ_=>Cl) (λ_ _ _ _ _ _=>.bad 203) (λ_ cl=>aOx fe cl) n
def runF(fe:Q->CF)(n:Nat)(f:Q)(args:List V)(nx:Q):AA:=qm fe n (.fn f [] []) args false .nil nx λv h _=>.ok (fin v h)
end Go.CM
end
