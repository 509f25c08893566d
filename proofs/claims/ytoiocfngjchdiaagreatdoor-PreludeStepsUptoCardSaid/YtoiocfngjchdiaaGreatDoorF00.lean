import Derived.Test.YtoiocfngjchdiaaGreatDoorC01
set_option linter.all false
noncomputable section
namespace Go.CM
abbrev AO:=(V->Res)->Res
abbrev A8:=(O->Res)->Res
def ev1:T1 V->AO:=@N5.rec V (TQ V) (λ_=>AO) (λv _ _ _ _ k=>k v)
def PH(q:QR)(t:TQ V)(k:V->Res):Res:=k (t.get Dft.z q)
def PF:QN QR->T1 V->AO:=@QN.rec QR (λ_=>T1 V->AO) ev1 (λq t k=>@N5.rec _ _ (λ_=>(TQ V->AO)->AO) (λ_ a _ _ _ g k=>g a k) t (PH q) k) (λq t k=>@N5.rec _ _ (λ_=>(TQ V->AO)->AO) (λ_ _ b _ _ g k=>g b k) t (PH q) k) (λq t k=>@N5.rec _ _ (λ_=>(TQ V->AO)->AO) (λ_ _ _ c _ g k=>g c k) t (PH q) k) (λq t k=>@N5.rec _ _ (λ_=>(TQ V->AO)->AO) (λ_ _ _ _ d g k=>g d k) t (PH q) k)
abbrev Nf:=V->T1 V->(T1 V->Res)->Res
def nv1(v:V)(t:T1 V)(k:T1 V->Res):Res:=@N5.rec V (TQ V) (λ_=>V->(T1 V->Res)->Res) (λ_ a b c d v k=>k (.mk v a b c d)) t v k
abbrev Rx:=V->TQ V->(TQ V->Res)->Res
def P2(q:QR)(v:V)(t:TQ V)(k:TQ V->Res):Res:=k (t.put Dft.z v q)
def P1:QN QR->Nf:=@QN.rec QR (λ_=>Nf) nv1 (λq v t k=>@N5.rec _ _ (λ_=>Rx->V->(T1 V->Res)->Res) (λu a b c d p v k=>p v a λx=>k (.mk u x b c d)) t (P2 q) v k) (λq v t k=>@N5.rec _ _ (λ_=>Rx->V->(T1 V->Res)->Res) (λu a b c d p v k=>p v b λx=>k (.mk u a x c d)) t (P2 q) v k) (λq v t k=>@N5.rec _ _ (λ_=>Rx->V->(T1 V->Res)->Res) (λu a b c d p v k=>p v c λx=>k (.mk u a b x d)) t (P2 q) v k) (λq v t k=>@N5.rec _ _ (λ_=>Rx->V->(T1 V->Res)->Res) (λu a b c d p v k=>p v d λx=>k (.mk u a b c x)) t (P2 q) v k)
def ev2:T2 V->AO:=@N5.rec V (T1 V) (λ_=>AO) (λv _ _ _ _ k=>k v)
def PE:QN Q1->T2 V->AO:=@QN.rec Q1 (λ_=>T2 V->AO) ev2 (λq t k=>@N5.rec _ _ (λ_=>(T1 V->AO)->AO) (λ_ a _ _ _ g k=>g a k) t (PF q) k) (λq t k=>@N5.rec _ _ (λ_=>(T1 V->AO)->AO) (λ_ _ b _ _ g k=>g b k) t (PF q) k) (λq t k=>@N5.rec _ _ (λ_=>(T1 V->AO)->AO) (λ_ _ _ c _ g k=>g c k) t (PF q) k) (λq t k=>@N5.rec _ _ (λ_=>(T1 V->AO)->AO) (λ_ _ _ _ d g k=>g d k) t (PF q) k)
abbrev Nd:=V->T2 V->(T2 V->Res)->Res
def nv2(v:V)(t:T2 V)(k:T2 V->Res):Res:=@N5.rec V (T1 V) (λ_=>V->(T2 V->Res)->Res) (λ_ a b c d v k=>k (.mk v a b c d)) t v k
def P0:QN Q1->Nd:=@QN.rec Q1 (λ_=>Nd) nv2 (λq v t k=>@N5.rec _ _ (λ_=>Nf->V->(T2 V->Res)->Res) (λu a b c d p v k=>p v a λx=>k (.mk u x b c d)) t (P1 q) v k) (λq v t k=>@N5.rec _ _ (λ_=>Nf->V->(T2 V->Res)->Res) (λu a b c d p v k=>p v b λx=>k (.mk u a x c d)) t (P1 q) v k) (λq v t k=>@N5.rec _ _ (λ_=>Nf->V->(T2 V->Res)->Res) (λu a b c d p v k=>p v c λx=>k (.mk u a b x d)) t (P1 q) v k) (λq v t k=>@N5.rec _ _ (λ_=>Nf->V->(T2 V->Res)->Res) (λu a b c d p v k=>p v d λx=>k (.mk u a b c x)) t (P1 q) v k)
def ev3:T3 V->AO:=@N5.rec V (T2 V) (λ_=>AO) (λv _ _ _ _ k=>k v)
def PD:QN Q2->T3 V->AO:=@QN.rec Q2 (λ_=>T3 V->AO) ev3 (λq t k=>@N5.rec _ _ (λ_=>(T2 V->AO)->AO) (λ_ a _ _ _ g k=>g a k) t (PE q) k) (λq t k=>@N5.rec _ _ (λ_=>(T2 V->AO)->AO) (λ_ _ b _ _ g k=>g b k) t (PE q) k) (λq t k=>@N5.rec _ _ (λ_=>(T2 V->AO)->AO) (λ_ _ _ c _ g k=>g c k) t (PE q) k) (λq t k=>@N5.rec _ _ (λ_=>(T2 V->AO)->AO) (λ_ _ _ _ d g k=>g d k) t (PE q) k)
abbrev Nc:=V->T3 V->(T3 V->Res)->Res
def nv3(v:V)(t:T3 V)(k:T3 V->Res):Res:=@N5.rec V (T2 V) (λ_=>V->(T3 V->Res)->Res) (λ_ a b c d v k=>k (.mk v a b c d)) t v k
def PZ:QN Q2->Nc:=@QN.rec Q2 (λ_=>Nc) nv3 (λq v t k=>@N5.rec _ _ (λ_=>Nd->V->(T3 V->Res)->Res) (λu a b c d p v k=>p v a λx=>k (.mk u x b c d)) t (P0 q) v k) (λq v t k=>@N5.rec _ _ (λ_=>Nd->V->(T3 V->Res)->Res) (λu a b c d p v k=>p v b λx=>k (.mk u a x c d)) t (P0 q) v k) (λq v t k=>@N5.rec _ _ (λ_=>Nd->V->(T3 V->Res)->Res) (λu a b c d p v k=>p v c λx=>k (.mk u a b x d)) t (P0 q) v k) (λq v t k=>@N5.rec _ _ (λ_=>Nd->V->(T3 V->Res)->Res) (λu a b c d p v k=>p v d λx=>k (.mk u a b c x)) t (P0 q) v k)
def ev4:T4 V->AO:=@N5.rec V (T3 V) (λ_=>AO) (λv _ _ _ _ k=>k v)
def PC:QN Q3->T4 V->AO:=@QN.rec Q3 (λ_=>T4 V->AO) ev4 (λq t k=>@N5.rec _ _ (λ_=>(T3 V->AO)->AO) (λ_ a _ _ _ g k=>g a k) t (PD q) k) (λq t k=>@N5.rec _ _ (λ_=>(T3 V->AO)->AO) (λ_ _ b _ _ g k=>g b k) t (PD q) k) (λq t k=>@N5.rec _ _ (λ_=>(T3 V->AO)->AO) (λ_ _ _ c _ g k=>g c k) t (PD q) k) (λq t k=>@N5.rec _ _ (λ_=>(T3 V->AO)->AO) (λ_ _ _ _ d g k=>g d k) t (PD q) k)
abbrev Nb:=V->T4 V->(T4 V->Res)->Res
def nv4(v:V)(t:T4 V)(k:T4 V->Res):Res:=@N5.rec V (T3 V) (λ_=>V->(T4 V->Res)->Res) (λ_ a b c d v k=>k (.mk v a b c d)) t v k
def PY:QN Q3->Nb:=@QN.rec Q3 (λ_=>Nb) nv4 (λq v t k=>@N5.rec _ _ (λ_=>Nc->V->(T4 V->Res)->Res) (λu a b c d p v k=>p v a λx=>k (.mk u x b c d)) t (PZ q) v k) (λq v t k=>@N5.rec _ _ (λ_=>Nc->V->(T4 V->Res)->Res) (λu a b c d p v k=>p v b λx=>k (.mk u a x c d)) t (PZ q) v k) (λq v t k=>@N5.rec _ _ (λ_=>Nc->V->(T4 V->Res)->Res) (λu a b c d p v k=>p v c λx=>k (.mk u a b x d)) t (PZ q) v k) (λq v t k=>@N5.rec _ _ (λ_=>Nc->V->(T4 V->Res)->Res) (λu a b c d p v k=>p v d λx=>k (.mk u a b c x)) t (PZ q) v k)
def ev5:T5 V->AO:=@N5.rec V (T4 V) (λ_=>AO) (λv _ _ _ _ k=>k v)
def PA:QN Q4->T5 V->AO:=@QN.rec Q4 (λ_=>T5 V->AO) ev5 (λq t k=>@N5.rec _ _ (λ_=>(T4 V->AO)->AO) (λ_ a _ _ _ g k=>g a k) t (PC q) k) (λq t k=>@N5.rec _ _ (λ_=>(T4 V->AO)->AO) (λ_ _ b _ _ g k=>g b k) t (PC q) k) (λq t k=>@N5.rec _ _ (λ_=>(T4 V->AO)->AO) (λ_ _ _ c _ g k=>g c k) t (PC q) k) (λq t k=>@N5.rec _ _ (λ_=>(T4 V->AO)->AO) (λ_ _ _ _ d g k=>g d k) t (PC q) k)
abbrev Na:=V->T5 V->(T5 V->Res)->Res
def nv5(v:V)(t:T5 V)(k:T5 V->Res):Res:=@N5.rec V (T4 V) (λ_=>V->(T5 V->Res)->Res) (λ_ a b c d v k=>k (.mk v a b c d)) t v k
def PX:QN Q4->Na:=@QN.rec Q4 (λ_=>Na) nv5 (λq v t k=>@N5.rec _ _ (λ_=>Nb->V->(T5 V->Res)->Res) (λu a b c d p v k=>p v a λx=>k (.mk u x b c d)) t (PY q) v k) (λq v t k=>@N5.rec _ _ (λ_=>Nb->V->(T5 V->Res)->Res) (λu a b c d p v k=>p v b λx=>k (.mk u a x c d)) t (PY q) v k) (λq v t k=>@N5.rec _ _ (λ_=>Nb->V->(T5 V->Res)->Res) (λu a b c d p v k=>p v c λx=>k (.mk u a b x d)) t (PY q) v k) (λq v t k=>@N5.rec _ _ (λ_=>Nb->V->(T5 V->Res)->Res) (λu a b c d p v k=>p v d λx=>k (.mk u a b c x)) t (PY q) v k)
def UQ:T6 V->AO:=@N5.rec V (T5 V) (λ_=>AO) (λv _ _ _ _ k=>k v)
def Oz:QN Q5->T6 V->AO:=@QN.rec Q5 (λ_=>T6 V->AO) UQ (λq t k=>@N5.rec _ _ (λ_=>(T5 V->AO)->AO) (λ_ a _ _ _ g k=>g a k) t (PA q) k) (λq t k=>@N5.rec _ _ (λ_=>(T5 V->AO)->AO) (λ_ _ b _ _ g k=>g b k) t (PA q) k) (λq t k=>@N5.rec _ _ (λ_=>(T5 V->AO)->AO) (λ_ _ _ c _ g k=>g c k) t (PA q) k) (λq t k=>@N5.rec _ _ (λ_=>(T5 V->AO)->AO) (λ_ _ _ _ d g k=>g d k) t (PA q) k)
abbrev Iq:=V->T6 V->(T6 V->Res)->Res
def S8(v:V)(t:T6 V)(k:T6 V->Res):Res:=@N5.rec V (T5 V) (λ_=>V->(T6 V->Res)->Res) (λ_ a b c d v k=>k (.mk v a b c d)) t v k
def PW:QN Q5->Iq:=@QN.rec Q5 (λ_=>Iq) S8 (λq v t k=>@N5.rec _ _ (λ_=>Na->V->(T6 V->Res)->Res) (λu a b c d p v k=>p v a λx=>k (.mk u x b c d)) t (PX q) v k) (λq v t k=>@N5.rec _ _ (λ_=>Na->V->(T6 V->Res)->Res) (λu a b c d p v k=>p v b λx=>k (.mk u a x c d)) t (PX q) v k) (λq v t k=>@N5.rec _ _ (λ_=>Na->V->(T6 V->Res)->Res) (λu a b c d p v k=>p v c λx=>k (.mk u a b x d)) t (PX q) v k) (λq v t k=>@N5.rec _ _ (λ_=>Na->V->(T6 V->Res)->Res) (λu a b c d p v k=>p v d λx=>k (.mk u a b c x)) t (PX q) v k)
def UP:T7 V->AO:=@N5.rec V (T6 V) (λ_=>AO) (λv _ _ _ _ k=>k v)
def YK(g:T6 V->AO)(t:T7 V)(k:V->Res):Res:=@N5.rec V (T6 V) (λ_=>(T6 V->AO)->AO) (λ_ a _ _ _ g k=>g a k) t g k
def YJ(g:T6 V->AO)(t:T7 V)(k:V->Res):Res:=@N5.rec V (T6 V) (λ_=>(T6 V->AO)->AO) (λ_ _ b _ _ g k=>g b k) t g k
def YI(g:T6 V->AO)(t:T7 V)(k:V->Res):Res:=@N5.rec V (T6 V) (λ_=>(T6 V->AO)->AO) (λ_ _ _ c _ g k=>g c k) t g k
def YH(g:T6 V->AO)(t:T7 V)(k:V->Res):Res:=@N5.rec V (T6 V) (λ_=>(T6 V->AO)->AO) (λ_ _ _ _ d g k=>g d k) t g k
def Oy:QN Q6->T7 V->AO:=@QN.rec Q6 (λ_=>T7 V->AO) UP (λq=>YK (Oz q)) (λq=>YJ (Oz q)) (λq=>YI (Oz q)) (λq=>YH (Oz q))
abbrev Ip:=V->T7 V->(T7 V->Res)->Res
def S7(v:V)(t:T7 V)(k:T7 V->Res):Res:=@N5.rec V (T6 V) (λ_=>V->(T7 V->Res)->Res) (λ_ a b c d v k=>k (.mk v a b c d)) t v k
def Y4(p:Iq)(v:V)(t:T7 V)(k:T7 V->Res):Res:=@N5.rec V (T6 V) (λ_=>Iq->V->(T7 V->Res)->Res) (λu a b c d p v k=>p v a λx=>k (.mk u x b c d)) t p v k
def Y3(p:Iq)(v:V)(t:T7 V)(k:T7 V->Res):Res:=@N5.rec V (T6 V) (λ_=>Iq->V->(T7 V->Res)->Res) (λu a b c d p v k=>p v b λx=>k (.mk u a x c d)) t p v k
def Y2(p:Iq)(v:V)(t:T7 V)(k:T7 V->Res):Res:=@N5.rec V (T6 V) (λ_=>Iq->V->(T7 V->Res)->Res) (λu a b c d p v k=>p v c λx=>k (.mk u a b x d)) t p v k
def Y1(p:Iq)(v:V)(t:T7 V)(k:T7 V->Res):Res:=@N5.rec V (T6 V) (λ_=>Iq->V->(T7 V->Res)->Res) (λu a b c d p v k=>p v d λx=>k (.mk u a b c x)) t p v k
def PV:QN Q6->Ip:=@QN.rec Q6 (λ_=>Ip) S7 (λq=>Y4 (PW q)) (λq=>Y3 (PW q)) (λq=>Y2 (PW q)) (λq=>Y1 (PW q))
def UO:T8 V->AO:=@N5.rec V (T7 V) (λ_=>AO) (λv _ _ _ _ k=>k v)
def YG(g:T7 V->AO)(t:T8 V)(k:V->Res):Res:=@N5.rec V (T7 V) (λ_=>(T7 V->AO)->AO) (λ_ a _ _ _ g k=>g a k) t g k
def YF(g:T7 V->AO)(t:T8 V)(k:V->Res):Res:=@N5.rec V (T7 V) (λ_=>(T7 V->AO)->AO) (λ_ _ b _ _ g k=>g b k) t g k
def YE(g:T7 V->AO)(t:T8 V)(k:V->Res):Res:=@N5.rec V (T7 V) (λ_=>(T7 V->AO)->AO) (λ_ _ _ c _ g k=>g c k) t g k
def YD(g:T7 V->AO)(t:T8 V)(k:V->Res):Res:=@N5.rec V (T7 V) (λ_=>(T7 V->AO)->AO) (λ_ _ _ _ d g k=>g d k) t g k
def Ox:QN Q7->T8 V->AO:=@QN.rec Q7 (λ_=>T8 V->AO) UO (λq=>YG (Oy q)) (λq=>YF (Oy q)) (λq=>YE (Oy q)) (λq=>YD (Oy q))
abbrev Io:=V->T8 V->(T8 V->Res)->Res
def S6(v:V)(t:T8 V)(k:T8 V->Res):Res:=@N5.rec V (T7 V) (λ_=>V->(T8 V->Res)->Res) (λ_ a b c d v k=>k (.mk v a b c d)) t v k
def Y0(p:Ip)(v:V)(t:T8 V)(k:T8 V->Res):Res:=@N5.rec V (T7 V) (λ_=>Ip->V->(T8 V->Res)->Res) (λu a b c d p v k=>p v a λx=>k (.mk u x b c d)) t p v k
def YZ(p:Ip)(v:V)(t:T8 V)(k:T8 V->Res):Res:=@N5.rec V (T7 V) (λ_=>Ip->V->(T8 V->Res)->Res) (λu a b c d p v k=>p v b λx=>k (.mk u a x c d)) t p v k
def YY(p:Ip)(v:V)(t:T8 V)(k:T8 V->Res):Res:=@N5.rec V (T7 V) (λ_=>Ip->V->(T8 V->Res)->Res) (λu a b c d p v k=>p v c λx=>k (.mk u a b x d)) t p v k
def YX(p:Ip)(v:V)(t:T8 V)(k:T8 V->Res):Res:=@N5.rec V (T7 V) (λ_=>Ip->V->(T8 V->Res)->Res) (λu a b c d p v k=>p v d λx=>k (.mk u a b c x)) t p v k
def PU:QN Q7->Io:=@QN.rec Q7 (λ_=>Io) S6 (λq=>Y0 (PV q)) (λq=>YZ (PV q)) (λq=>YY (PV q)) (λq=>YX (PV q))
def UN:T9 V->AO:=@N5.rec V (T8 V) (λ_=>AO) (λv _ _ _ _ k=>k v)
def YC(g:T8 V->AO)(t:T9 V)(k:V->Res):Res:=@N5.rec V (T8 V) (λ_=>(T8 V->AO)->AO) (λ_ a _ _ _ g k=>g a k) t g k
def YB(g:T8 V->AO)(t:T9 V)(k:V->Res):Res:=@N5.rec V (T8 V) (λ_=>(T8 V->AO)->AO) (λ_ _ b _ _ g k=>g b k) t g k
def YA(g:T8 V->AO)(t:T9 V)(k:V->Res):Res:=@N5.rec V (T8 V) (λ_=>(T8 V->AO)->AO) (λ_ _ _ c _ g k=>g c k) t g k
def Xz(g:T8 V->AO)(t:T9 V)(k:V->Res):Res:=@N5.rec V (T8 V) (λ_=>(T8 V->AO)->AO) (λ_ _ _ _ d g k=>g d k) t g k
def Ow:QN Q8->T9 V->AO:=@QN.rec Q8 (λ_=>T9 V->AO) UN (λq=>YC (Ox q)) (λq=>YB (Ox q)) (λq=>YA (Ox q)) (λq=>Xz (Ox q))
abbrev Im:=V->T9 V->(T9 V->Res)->Res
def S5(v:V)(t:T9 V)(k:T9 V->Res):Res:=@N5.rec V (T8 V) (λ_=>V->(T9 V->Res)->Res) (λ_ a b c d v k=>k (.mk v a b c d)) t v k
def YU(p:Io)(v:V)(t:T9 V)(k:T9 V->Res):Res:=@N5.rec V (T8 V) (λ_=>Io->V->(T9 V->Res)->Res) (λu a b c d p v k=>p v a λx=>k (.mk u x b c d)) t p v k
def YT(p:Io)(v:V)(t:T9 V)(k:T9 V->Res):Res:=@N5.rec V (T8 V) (λ_=>Io->V->(T9 V->Res)->Res) (λu a b c d p v k=>p v b λx=>k (.mk u a x c d)) t p v k
def YS(p:Io)(v:V)(t:T9 V)(k:T9 V->Res):Res:=@N5.rec V (T8 V) (λ_=>Io->V->(T9 V->Res)->Res) (λu a b c d p v k=>p v c λx=>k (.mk u a b x d)) t p v k
def YR(p:Io)(v:V)(t:T9 V)(k:T9 V->Res):Res:=@N5.rec V (T8 V) (λ_=>Io->V->(T9 V->Res)->Res) (λu a b c d p v k=>p v d λx=>k (.mk u a b c x)) t p v k
def PT:QN Q8->Im:=@QN.rec Q8 (λ_=>Im) S5 (λq=>YU (PU q)) (λq=>YT (PU q)) (λq=>YS (PU q)) (λq=>YR (PU q))
def VS:N5 V (T9 V)->AO:=@N5.rec V (T9 V) (λ_=>AO) (λv _ _ _ _ k=>k v)
def aJP(g:T9 V->AO)(t:N5 V (T9 V))(k:V->Res):Res:=@N5.rec V (T9 V) (λ_=>(T9 V->AO)->AO) (λ_ a _ _ _ g k=>g a k) t g k
def aJQ(g:T9 V->AO)(t:N5 V (T9 V))(k:V->Res):Res:=@N5.rec V (T9 V) (λ_=>(T9 V->AO)->AO) (λ_ _ b _ _ g k=>g b k) t g k
def aJR(g:T9 V->AO)(t:N5 V (T9 V))(k:V->Res):Res:=@N5.rec V (T9 V) (λ_=>(T9 V->AO)->AO) (λ_ _ _ c _ g k=>g c k) t g k
def aJS(g:T9 V->AO)(t:N5 V (T9 V))(k:V->Res):Res:=@N5.rec V (T9 V) (λ_=>(T9 V->AO)->AO) (λ_ _ _ _ d g k=>g d k) t g k
def Yb:QN Q9->N5 V (T9 V)->AO:=@QN.rec Q9 (λ_=>N5 V (T9 V)->AO) VS (λq=>aJP (Ow q)) (λq=>aJQ (Ow q)) (λq=>aJR (Ow q)) (λq=>aJS (Ow q))
abbrev QF:=V->N5 V (T9 V)->(N5 V (T9 V)->Res)->Res
def Ul(v:V)(t:N5 V (T9 V))(k:N5 V (T9 V)->Res):Res:=@N5.rec V (T9 V) (λ_=>V->(N5 V (T9 V)->Res)->Res) (λ_ a b c d v k=>k (.mk v a b c d)) t v k
def aJC(p:Im)(v:V)(t:N5 V (T9 V))(k:N5 V (T9 V)->Res):Res:=@N5.rec V (T9 V) (λ_=>Im->V->(N5 V (T9 V)->Res)->Res) (λu a b c d p v k=>p v a λx=>k (.mk u x b c d)) t p v k
def aJD(p:Im)(v:V)(t:N5 V (T9 V))(k:N5 V (T9 V)->Res):Res:=@N5.rec V (T9 V) (λ_=>Im->V->(N5 V (T9 V)->Res)->Res) (λu a b c d p v k=>p v b λx=>k (.mk u a x c d)) t p v k
def aJE(p:Im)(v:V)(t:N5 V (T9 V))(k:N5 V (T9 V)->Res):Res:=@N5.rec V (T9 V) (λ_=>Im->V->(N5 V (T9 V)->Res)->Res) (λu a b c d p v k=>p v c λx=>k (.mk u a b x d)) t p v k
def aJF(p:Im)(v:V)(t:N5 V (T9 V))(k:N5 V (T9 V)->Res):Res:=@N5.rec V (T9 V) (λ_=>Im->V->(N5 V (T9 V)->Res)->Res) (λu a b c d p v k=>p v d λx=>k (.mk u a b c x)) t p v k
def Yr:QN Q9->QF:=@QN.rec Q9 (λ_=>QF) Ul (λq=>aJC (PT q)) (λq=>aJD (PT q)) (λq=>aJE (PT q)) (λq=>aJF (PT q))
def eo1:T1 O->A8:=@N5.rec O (TQ O) (λ_=>A8) (λv _ _ _ _ k=>k v)
def PR(q:QR)(t:TQ O)(k:O->Res):Res:=k (t.get Dft.z q)
def PQ:QN QR->T1 O->A8:=@QN.rec QR (λ_=>T1 O->A8) eo1 (λq t k=>@N5.rec _ _ (λ_=>(TQ O->A8)->A8) (λ_ a _ _ _ g k=>g a k) t (PR q) k) (λq t k=>@N5.rec _ _ (λ_=>(TQ O->A8)->A8) (λ_ _ b _ _ g k=>g b k) t (PR q) k) (λq t k=>@N5.rec _ _ (λ_=>(TQ O->A8)->A8) (λ_ _ _ c _ g k=>g c k) t (PR q) k) (λq t k=>@N5.rec _ _ (λ_=>(TQ O->A8)->A8) (λ_ _ _ _ d g k=>g d k) t (PR q) k)
abbrev Np:=O->T1 O->(T1 O->Res)->Res
def no1(v:O)(t:T1 O)(k:T1 O->Res):Res:=@N5.rec O (TQ O) (λ_=>O->(T1 O->Res)->Res) (λ_ a b c d v k=>k (.mk v a b c d)) t v k
abbrev Rz:=O->TQ O->(TQ O->Res)->Res
def Pc(q:QR)(v:O)(t:TQ O)(k:TQ O->Res):Res:=k (t.put Dft.z v q)
def Pb:QN QR->Np:=@QN.rec QR (λ_=>Np) no1 (λq v t k=>@N5.rec _ _ (λ_=>Rz->O->(T1 O->Res)->Res) (λu a b c d p v k=>p v a λx=>k (.mk u x b c d)) t (Pc q) v k) (λq v t k=>@N5.rec _ _ (λ_=>Rz->O->(T1 O->Res)->Res) (λu a b c d p v k=>p v b λx=>k (.mk u a x c d)) t (Pc q) v k) (λq v t k=>@N5.rec _ _ (λ_=>Rz->O->(T1 O->Res)->Res) (λu a b c d p v k=>p v c λx=>k (.mk u a b x d)) t (Pc q) v k) (λq v t k=>@N5.rec _ _ (λ_=>Rz->O->(T1 O->Res)->Res) (λu a b c d p v k=>p v d λx=>k (.mk u a b c x)) t (Pc q) v k)
def eo2:T2 O->A8:=@N5.rec O (T1 O) (λ_=>A8) (λv _ _ _ _ k=>k v)
def go2:QN Q1->T2 O->A8:=@QN.rec Q1 (λ_=>T2 O->A8) eo2 (λq t k=>@N5.rec _ _ (λ_=>(T1 O->A8)->A8) (λ_ a _ _ _ g k=>g a k) t (PQ q) k) (λq t k=>@N5.rec _ _ (λ_=>(T1 O->A8)->A8) (λ_ _ b _ _ g k=>g b k) t (PQ q) k) (λq t k=>@N5.rec _ _ (λ_=>(T1 O->A8)->A8) (λ_ _ _ c _ g k=>g c k) t (PQ q) k) (λq t k=>@N5.rec _ _ (λ_=>(T1 O->A8)->A8) (λ_ _ _ _ d g k=>g d k) t (PQ q) k)
abbrev Nn:=O->T2 O->(T2 O->Res)->Res
def no2(v:O)(t:T2 O)(k:T2 O->Res):Res:=@N5.rec O (T1 O) (λ_=>O->(T2 O->Res)->Res) (λ_ a b c d v k=>k (.mk v a b c d)) t v k
def Pa:QN Q1->Nn:=@QN.rec Q1 (λ_=>Nn) no2 (λq v t k=>@N5.rec _ _ (λ_=>Np->O->(T2 O->Res)->Res) (λu a b c d p v k=>p v a λx=>k (.mk u x b c d)) t (Pb q) v k) (λq v t k=>@N5.rec _ _ (λ_=>Np->O->(T2 O->Res)->Res) (λu a b c d p v k=>p v b λx=>k (.mk u a x c d)) t (Pb q) v k) (λq v t k=>@N5.rec _ _ (λ_=>Np->O->(T2 O->Res)->Res) (λu a b c d p v k=>p v c λx=>k (.mk u a b x d)) t (Pb q) v k) (λq v t k=>@N5.rec _ _ (λ_=>Np->O->(T2 O->Res)->Res) (λu a b c d p v k=>p v d λx=>k (.mk u a b c x)) t (Pb q) v k)
def eo3:T3 O->A8:=@N5.rec O (T2 O) (λ_=>A8) (λv _ _ _ _ k=>k v)
def PO:QN Q2->T3 O->A8:=@QN.rec Q2 (λ_=>T3 O->A8) eo3 (λq t k=>@N5.rec _ _ (λ_=>(T2 O->A8)->A8) (λ_ a _ _ _ g k=>g a k) t (go2 q) k) (λq t k=>@N5.rec _ _ (λ_=>(T2 O->A8)->A8) (λ_ _ b _ _ g k=>g b k) t (go2 q) k) (λq t k=>@N5.rec _ _ (λ_=>(T2 O->A8)->A8) (λ_ _ _ c _ g k=>g c k) t (go2 q) k) (λq t k=>@N5.rec _ _ (λ_=>(T2 O->A8)->A8) (λ_ _ _ _ d g k=>g d k) t (go2 q) k)
abbrev Nm:=O->T3 O->(T3 O->Res)->Res
def no3(v:O)(t:T3 O)(k:T3 O->Res):Res:=@N5.rec O (T2 O) (λ_=>O->(T3 O->Res)->Res) (λ_ a b c d v k=>k (.mk v a b c d)) t v k
def P9:QN Q2->Nm:=@QN.rec Q2 (λ_=>Nm) no3 (λq v t k=>@N5.rec _ _ (λ_=>Nn->O->(T3 O->Res)->Res) (λu a b c d p v k=>p v a λx=>k (.mk u x b c d)) t (Pa q) v k) (λq v t k=>@N5.rec _ _ (λ_=>Nn->O->(T3 O->Res)->Res) (λu a b c d p v k=>p v b λx=>k (.mk u a x c d)) t (Pa q) v k) (λq v t k=>@N5.rec _ _ (λ_=>Nn->O->(T3 O->Res)->Res) (λu a b c d p v k=>p v c λx=>k (.mk u a b x d)) t (Pa q) v k) (λq v t k=>@N5.rec _ _ (λ_=>Nn->O->(T3 O->Res)->Res) (λu a b c d p v k=>p v d λx=>k (.mk u a b c x)) t (Pa q) v k)
def eo4:T4 O->A8:=@N5.rec O (T3 O) (λ_=>A8) (λv _ _ _ _ k=>k v)
def PN:QN Q3->T4 O->A8:=@QN.rec Q3 (λ_=>T4 O->A8) eo4 (λq t k=>@N5.rec _ _ (λ_=>(T3 O->A8)->A8) (λ_ a _ _ _ g k=>g a k) t (PO q) k) (λq t k=>@N5.rec _ _ (λ_=>(T3 O->A8)->A8) (λ_ _ b _ _ g k=>g b k) t (PO q) k) (λq t k=>@N5.rec _ _ (λ_=>(T3 O->A8)->A8) (λ_ _ _ c _ g k=>g c k) t (PO q) k) (λq t k=>@N5.rec _ _ (λ_=>(T3 O->A8)->A8) (λ_ _ _ _ d g k=>g d k) t (PO q) k)
abbrev Nl:=O->T4 O->(T4 O->Res)->Res
def no4(v:O)(t:T4 O)(k:T4 O->Res):Res:=@N5.rec O (T3 O) (λ_=>O->(T4 O->Res)->Res) (λ_ a b c d v k=>k (.mk v a b c d)) t v k
def P8:QN Q3->Nl:=@QN.rec Q3 (λ_=>Nl) no4 (λq v t k=>@N5.rec _ _ (λ_=>Nm->O->(T4 O->Res)->Res) (λu a b c d p v k=>p v a λx=>k (.mk u x b c d)) t (P9 q) v k) (λq v t k=>@N5.rec _ _ (λ_=>Nm->O->(T4 O->Res)->Res) (λu a b c d p v k=>p v b λx=>k (.mk u a x c d)) t (P9 q) v k) (λq v t k=>@N5.rec _ _ (λ_=>Nm->O->(T4 O->Res)->Res) (λu a b c d p v k=>p v c λx=>k (.mk u a b x d)) t (P9 q) v k) (λq v t k=>@N5.rec _ _ (λ_=>Nm->O->(T4 O->Res)->Res) (λu a b c d p v k=>p v d λx=>k (.mk u a b c x)) t (P9 q) v k)
def eo5:T5 O->A8:=@N5.rec O (T4 O) (λ_=>A8) (λv _ _ _ _ k=>k v)
def PM:QN Q4->T5 O->A8:=@QN.rec Q4 (λ_=>T5 O->A8) eo5 (λq t k=>@N5.rec _ _ (λ_=>(T4 O->A8)->A8) (λ_ a _ _ _ g k=>g a k) t (PN q) k) (λq t k=>@N5.rec _ _ (λ_=>(T4 O->A8)->A8) (λ_ _ b _ _ g k=>g b k) t (PN q) k) (λq t k=>@N5.rec _ _ (λ_=>(T4 O->A8)->A8) (λ_ _ _ c _ g k=>g c k) t (PN q) k) (λq t k=>@N5.rec _ _ (λ_=>(T4 O->A8)->A8) (λ_ _ _ _ d g k=>g d k) t (PN q) k)
abbrev Nk:=O->T5 O->(T5 O->Res)->Res
def no5(v:O)(t:T5 O)(k:T5 O->Res):Res:=@N5.rec O (T4 O) (λ_=>O->(T5 O->Res)->Res) (λ_ a b c d v k=>k (.mk v a b c d)) t v k
def P7:QN Q4->Nk:=@QN.rec Q4 (λ_=>Nk) no5 (λq v t k=>@N5.rec _ _ (λ_=>Nl->O->(T5 O->Res)->Res) (λu a b c d p v k=>p v a λx=>k (.mk u x b c d)) t (P8 q) v k) (λq v t k=>@N5.rec _ _ (λ_=>Nl->O->(T5 O->Res)->Res) (λu a b c d p v k=>p v b λx=>k (.mk u a x c d)) t (P8 q) v k) (λq v t k=>@N5.rec _ _ (λ_=>Nl->O->(T5 O->Res)->Res) (λu a b c d p v k=>p v c λx=>k (.mk u a b x d)) t (P8 q) v k) (λq v t k=>@N5.rec _ _ (λ_=>Nl->O->(T5 O->Res)->Res) (λu a b c d p v k=>p v d λx=>k (.mk u a b c x)) t (P8 q) v k)
def eo6:T6 O->A8:=@N5.rec O (T5 O) (λ_=>A8) (λv _ _ _ _ k=>k v)
def PL:QN Q5->T6 O->A8:=@QN.rec Q5 (λ_=>T6 O->A8) eo6 (λq t k=>@N5.rec _ _ (λ_=>(T5 O->A8)->A8) (λ_ a _ _ _ g k=>g a k) t (PM q) k) (λq t k=>@N5.rec _ _ (λ_=>(T5 O->A8)->A8) (λ_ _ b _ _ g k=>g b k) t (PM q) k) (λq t k=>@N5.rec _ _ (λ_=>(T5 O->A8)->A8) (λ_ _ _ c _ g k=>g c k) t (PM q) k) (λq t k=>@N5.rec _ _ (λ_=>(T5 O->A8)->A8) (λ_ _ _ _ d g k=>g d k) t (PM q) k)
abbrev Nj:=O->T6 O->(T6 O->Res)->Res
def no6(v:O)(t:T6 O)(k:T6 O->Res):Res:=@N5.rec O (T5 O) (λ_=>O->(T6 O->Res)->Res) (λ_ a b c d v k=>k (.mk v a b c d)) t v k
def P6:QN Q5->Nj:=@QN.rec Q5 (λ_=>Nj) no6 (λq v t k=>@N5.rec _ _ (λ_=>Nk->O->(T6 O->Res)->Res) (λu a b c d p v k=>p v a λx=>k (.mk u x b c d)) t (P7 q) v k) (λq v t k=>@N5.rec _ _ (λ_=>Nk->O->(T6 O->Res)->Res) (λu a b c d p v k=>p v b λx=>k (.mk u a x c d)) t (P7 q) v k) (λq v t k=>@N5.rec _ _ (λ_=>Nk->O->(T6 O->Res)->Res) (λu a b c d p v k=>p v c λx=>k (.mk u a b x d)) t (P7 q) v k) (λq v t k=>@N5.rec _ _ (λ_=>Nk->O->(T6 O->Res)->Res) (λu a b c d p v k=>p v d λx=>k (.mk u a b c x)) t (P7 q) v k)
def eo7:T7 O->A8:=@N5.rec O (T6 O) (λ_=>A8) (λv _ _ _ _ k=>k v)
def PK:QN Q6->T7 O->A8:=@QN.rec Q6 (λ_=>T7 O->A8) eo7 (λq t k=>@N5.rec _ _ (λ_=>(T6 O->A8)->A8) (λ_ a _ _ _ g k=>g a k) t (PL q) k) (λq t k=>@N5.rec _ _ (λ_=>(T6 O->A8)->A8) (λ_ _ b _ _ g k=>g b k) t (PL q) k) (λq t k=>@N5.rec _ _ (λ_=>(T6 O->A8)->A8) (λ_ _ _ c _ g k=>g c k) t (PL q) k) (λq t k=>@N5.rec _ _ (λ_=>(T6 O->A8)->A8) (λ_ _ _ _ d g k=>g d k) t (PL q) k)
abbrev Ni:=O->T7 O->(T7 O->Res)->Res
def no7(v:O)(t:T7 O)(k:T7 O->Res):Res:=@N5.rec O (T6 O) (λ_=>O->(T7 O->Res)->Res) (λ_ a b c d v k=>k (.mk v a b c d)) t v k
def P5:QN Q6->Ni:=@QN.rec Q6 (λ_=>Ni) no7 (λq v t k=>@N5.rec _ _ (λ_=>Nj->O->(T7 O->Res)->Res) (λu a b c d p v k=>p v a λx=>k (.mk u x b c d)) t (P6 q) v k) (λq v t k=>@N5.rec _ _ (λ_=>Nj->O->(T7 O->Res)->Res) (λu a b c d p v k=>p v b λx=>k (.mk u a x c d)) t (P6 q) v k) (λq v t k=>@N5.rec _ _ (λ_=>Nj->O->(T7 O->Res)->Res) (λu a b c d p v k=>p v c λx=>k (.mk u a b x d)) t (P6 q) v k) (λq v t k=>@N5.rec _ _ (λ_=>Nj->O->(T7 O->Res)->Res) (λu a b c d p v k=>p v d λx=>k (.mk u a b c x)) t (P6 q) v k)
def eo8:T8 O->A8:=@N5.rec O (T7 O) (λ_=>A8) (λv _ _ _ _ k=>k v)
def PJ:QN Q7->T8 O->A8:=@QN.rec Q7 (λ_=>T8 O->A8) eo8 (λq t k=>@N5.rec _ _ (λ_=>(T7 O->A8)->A8) (λ_ a _ _ _ g k=>g a k) t (PK q) k) (λq t k=>@N5.rec _ _ (λ_=>(T7 O->A8)->A8) (λ_ _ b _ _ g k=>g b k) t (PK q) k) (λq t k=>@N5.rec _ _ (λ_=>(T7 O->A8)->A8) (λ_ _ _ c _ g k=>g c k) t (PK q) k) (λq t k=>@N5.rec _ _ (λ_=>(T7 O->A8)->A8) (λ_ _ _ _ d g k=>g d k) t (PK q) k)
abbrev Nh:=O->T8 O->(T8 O->Res)->Res
def no8(v:O)(t:T8 O)(k:T8 O->Res):Res:=@N5.rec O (T7 O) (λ_=>O->(T8 O->Res)->Res) (λ_ a b c d v k=>k (.mk v a b c d)) t v k
def P4:QN Q7->Nh:=@QN.rec Q7 (λ_=>Nh) no8 (λq v t k=>@N5.rec _ _ (λ_=>Ni->O->(T8 O->Res)->Res) (λu a b c d p v k=>p v a λx=>k (.mk u x b c d)) t (P5 q) v k) (λq v t k=>@N5.rec _ _ (λ_=>Ni->O->(T8 O->Res)->Res) (λu a b c d p v k=>p v b λx=>k (.mk u a x c d)) t (P5 q) v k) (λq v t k=>@N5.rec _ _ (λ_=>Ni->O->(T8 O->Res)->Res) (λu a b c d p v k=>p v c λx=>k (.mk u a b x d)) t (P5 q) v k) (λq v t k=>@N5.rec _ _ (λ_=>Ni->O->(T8 O->Res)->Res) (λu a b c d p v k=>p v d λx=>k (.mk u a b c x)) t (P5 q) v k)
def eo9:T9 O->A8:=@N5.rec O (T8 O) (λ_=>A8) (λv _ _ _ _ k=>k v)
def PI:QN Q8->T9 O->A8:=@QN.rec Q8 (λ_=>T9 O->A8) eo9 (λq t k=>@N5.rec _ _ (λ_=>(T8 O->A8)->A8) (λ_ a _ _ _ g k=>g a k) t (PJ q) k) (λq t k=>@N5.rec _ _ (λ_=>(T8 O->A8)->A8) (λ_ _ b _ _ g k=>g b k) t (PJ q) k) (λq t k=>@N5.rec _ _ (λ_=>(T8 O->A8)->A8) (λ_ _ _ c _ g k=>g c k) t (PJ q) k) (λq t k=>@N5.rec _ _ (λ_=>(T8 O->A8)->A8) (λ_ _ _ _ d g k=>g d k) t (PJ q) k)
abbrev Ng:=O->T9 O->(T9 O->Res)->Res
def no9(v:O)(t:T9 O)(k:T9 O->Res):Res:=@N5.rec O (T8 O) (λ_=>O->(T9 O->Res)->Res) (λ_ a b c d v k=>k (.mk v a b c d)) t v k
def P3:QN Q8->Ng:=@QN.rec Q8 (λ_=>Ng) no9 (λq v t k=>@N5.rec _ _ (λ_=>Nh->O->(T9 O->Res)->Res) (λu a b c d p v k=>p v a λx=>k (.mk u x b c d)) t (P4 q) v k) (λq v t k=>@N5.rec _ _ (λ_=>Nh->O->(T9 O->Res)->Res) (λu a b c d p v k=>p v b λx=>k (.mk u a x c d)) t (P4 q) v k) (λq v t k=>@N5.rec _ _ (λ_=>Nh->O->(T9 O->Res)->Res) (λu a b c d p v k=>p v c λx=>k (.mk u a b x d)) t (P4 q) v k) (λq v t k=>@N5.rec _ _ (λ_=>Nh->O->(T9 O->Res)->Res) (λu a b c d p v k=>p v d λx=>k (.mk u a b c x)) t (P4 q) v k)
def aYy:N5 O (T9 O)->A8:=@N5.rec O (T9 O) (λ_=>A8) (λv _ _ _ _ k=>k v)
def Yc:QN Q9->N5 O (T9 O)->A8:=@QN.rec Q9 (λ_=>N5 O (T9 O)->A8) aYy (λq t k=>@N5.rec _ _ (λ_=>(T9 O->A8)->A8) (λ_ a _ _ _ g k=>g a k) t (PI q) k) (λq t k=>@N5.rec _ _ (λ_=>(T9 O->A8)->A8) (λ_ _ b _ _ g k=>g b k) t (PI q) k) (λq t k=>@N5.rec _ _ (λ_=>(T9 O->A8)->A8) (λ_ _ _ c _ g k=>g c k) t (PI q) k) (λq t k=>@N5.rec _ _ (λ_=>(T9 O->A8)->A8) (λ_ _ _ _ d g k=>g d k) t (PI q) k)
abbrev ZN:=O->N5 O (T9 O)->(N5 O (T9 O)->Res)->Res
def aYP(v:O)(t:N5 O (T9 O))(k:N5 O (T9 O)->Res):Res:=@N5.rec O (T9 O) (λ_=>O->(N5 O (T9 O)->Res)->Res) (λ_ a b c d v k=>k (.mk v a b c d)) t v k
def Yt:QN Q9->ZN:=@QN.rec Q9 (λ_=>ZN) aYP (λq v t k=>@N5.rec _ _ (λ_=>Ng->O->(N5 O (T9 O)->Res)->Res) (λu a b c d p v k=>p v a λx=>k (.mk u x b c d)) t (P3 q) v k) (λq v t k=>@N5.rec _ _ (λ_=>Ng->O->(N5 O (T9 O)->Res)->Res) (λu a b c d p v k=>p v b λx=>k (.mk u a x c d)) t (P3 q) v k) (λq v t k=>@N5.rec _ _ (λ_=>Ng->O->(N5 O (T9 O)->Res)->Res) (λu a b c d p v k=>p v c λx=>k (.mk u a b x d)) t (P3 q) v k) (λq v t k=>@N5.rec _ _ (λ_=>Ng->O->(N5 O (T9 O)->Res)->Res) (λu a b c d p v k=>p v d λx=>k (.mk u a b c x)) t (P3 q) v k)
def W5(q:QR)(k:QR->Res):Res:=k q.succ
def QS(p q:QR):Bool:=p.beq q
def W4:QN QR->(QN QR->Res)->Res:=@QN.rec QR (λ_=>(QN QR->Res)->Res) (λk=>k (.a QR.e)) (λq k=>k (.b q)) (λq k=>k (.c q)) (λq k=>k (.d q)) (λq k=>W5 q λp=>k (.a p))
def QQ:QN QR->QN QR->Bool:=@QN.rec QR (λ_=>QN QR->Bool) (λp=>@QN.rec QR (λ_=>Bool) true (λ_=>false) (λ_=>false) (λ_=>false) (λ_=>false) p) (λq p=>@QN.rec QR (λ_=>QR->Bool) (λ_=>false) (λp q=>QS q p) (λ_ _=>false) (λ_ _=>false) (λ_ _=>false) p q) (λq p=>@QN.rec QR (λ_=>QR->Bool) (λ_=>false) (λ_ _=>false) (λp q=>QS q p) (λ_ _=>false) (λ_ _=>false) p q) (λq p=>@QN.rec QR (λ_=>QR->Bool) (λ_=>false) (λ_ _=>false) (λ_ _=>false) (λp q=>QS q p) (λ_ _=>false) p q) (λq p=>@QN.rec QR (λ_=>QR->Bool) (λ_=>false) (λ_ _=>false) (λ_ _=>false) (λ_ _=>false) (λp q=>QS q p) p q)
def W3:QN Q1->(QN Q1->Res)->Res:=@QN.rec Q1 (λ_=>(QN Q1->Res)->Res) (λk=>k (.a (QN.e (α:=QR)))) (λq k=>k (.b q)) (λq k=>k (.c q)) (λq k=>k (.d q)) (λq k=>W4 q λp=>k (.a p))
def QP:QN Q1->QN Q1->Bool:=@QN.rec Q1 (λ_=>QN Q1->Bool) (λp=>@QN.rec Q1 (λ_=>Bool) true (λ_=>false) (λ_=>false) (λ_=>false) (λ_=>false) p) (λq p=>@QN.rec Q1 (λ_=>Q1->Bool) (λ_=>false) (λp q=>QQ q p) (λ_ _=>false) (λ_ _=>false) (λ_ _=>false) p q) (λq p=>@QN.rec Q1 (λ_=>Q1->Bool) (λ_=>false) (λ_ _=>false) (λp q=>QQ q p) (λ_ _=>false) (λ_ _=>false) p q) (λq p=>@QN.rec Q1 (λ_=>Q1->Bool) (λ_=>false) (λ_ _=>false) (λ_ _=>false) (λp q=>QQ q p) (λ_ _=>false) p q) (λq p=>@QN.rec Q1 (λ_=>Q1->Bool) (λ_=>false) (λ_ _=>false) (λ_ _=>false) (λ_ _=>false) (λp q=>QQ q p) p q)
def W2:QN Q2->(QN Q2->Res)->Res:=@QN.rec Q2 (λ_=>(QN Q2->Res)->Res) (λk=>k (.a (QN.e (α:=Q1)))) (λq k=>k (.b q)) (λq k=>k (.c q)) (λq k=>k (.d q)) (λq k=>W3 q λp=>k (.a p))
def QO:QN Q2->QN Q2->Bool:=@QN.rec Q2 (λ_=>QN Q2->Bool) (λp=>@QN.rec Q2 (λ_=>Bool) true (λ_=>false) (λ_=>false) (λ_=>false) (λ_=>false) p) (λq p=>@QN.rec Q2 (λ_=>Q2->Bool) (λ_=>false) (λp q=>QP q p) (λ_ _=>false) (λ_ _=>false) (λ_ _=>false) p q) (λq p=>@QN.rec Q2 (λ_=>Q2->Bool) (λ_=>false) (λ_ _=>false) (λp q=>QP q p) (λ_ _=>false) (λ_ _=>false) p q) (λq p=>@QN.rec Q2 (λ_=>Q2->Bool) (λ_=>false) (λ_ _=>false) (λ_ _=>false) (λp q=>QP q p) (λ_ _=>false) p q) (λq p=>@QN.rec Q2 (λ_=>Q2->Bool) (λ_=>false) (λ_ _=>false) (λ_ _=>false) (λ_ _=>false) (λp q=>QP q p) p q)
def W1:QN Q3->(QN Q3->Res)->Res:=@QN.rec Q3 (λ_=>(QN Q3->Res)->Res) (λk=>k (.a (QN.e (α:=Q2)))) (λq k=>k (.b q)) (λq k=>k (.c q)) (λq k=>k (.d q)) (λq k=>W2 q λp=>k (.a p))
def QM:QN Q3->QN Q3->Bool:=@QN.rec Q3 (λ_=>QN Q3->Bool) (λp=>@QN.rec Q3 (λ_=>Bool) true (λ_=>false) (λ_=>false) (λ_=>false) (λ_=>false) p) (λq p=>@QN.rec Q3 (λ_=>Q3->Bool) (λ_=>false) (λp q=>QO q p) (λ_ _=>false) (λ_ _=>false) (λ_ _=>false) p q) (λq p=>@QN.rec Q3 (λ_=>Q3->Bool) (λ_=>false) (λ_ _=>false) (λp q=>QO q p) (λ_ _=>false) (λ_ _=>false) p q) (λq p=>@QN.rec Q3 (λ_=>Q3->Bool) (λ_=>false) (λ_ _=>false) (λ_ _=>false) (λp q=>QO q p) (λ_ _=>false) p q) (λq p=>@QN.rec Q3 (λ_=>Q3->Bool) (λ_=>false) (λ_ _=>false) (λ_ _=>false) (λ_ _=>false) (λp q=>QO q p) p q)
def W0:QN Q4->(QN Q4->Res)->Res:=@QN.rec Q4 (λ_=>(QN Q4->Res)->Res) (λk=>k (.a (QN.e (α:=Q3)))) (λq k=>k (.b q)) (λq k=>k (.c q)) (λq k=>k (.d q)) (λq k=>W1 q λp=>k (.a p))
def QL:QN Q4->QN Q4->Bool:=@QN.rec Q4 (λ_=>QN Q4->Bool) (λp=>@QN.rec Q4 (λ_=>Bool) true (λ_=>false) (λ_=>false) (λ_=>false) (λ_=>false) p) (λq p=>@QN.rec Q4 (λ_=>Q4->Bool) (λ_=>false) (λp q=>QM q p) (λ_ _=>false) (λ_ _=>false) (λ_ _=>false) p q) (λq p=>@QN.rec Q4 (λ_=>Q4->Bool) (λ_=>false) (λ_ _=>false) (λp q=>QM q p) (λ_ _=>false) (λ_ _=>false) p q) (λq p=>@QN.rec Q4 (λ_=>Q4->Bool) (λ_=>false) (λ_ _=>false) (λ_ _=>false) (λp q=>QM q p) (λ_ _=>false) p q) (λq p=>@QN.rec Q4 (λ_=>Q4->Bool) (λ_=>false) (λ_ _=>false) (λ_ _=>false) (λ_ _=>false) (λp q=>QM q p) p q)
def WZ:QN Q5->(QN Q5->Res)->Res:=@QN.rec Q5 (λ_=>(QN Q5->Res)->Res) (λk=>k (.a (QN.e (α:=Q4)))) (λq k=>k (.b q)) (λq k=>k (.c q)) (λq k=>k (.d q)) (λq k=>W0 q λp=>k (.a p))
def QK:QN Q5->QN Q5->Bool:=@QN.rec Q5 (λ_=>QN Q5->Bool) (λp=>@QN.rec Q5 (λ_=>Bool) true (λ_=>false) (λ_=>false) (λ_=>false) (λ_=>false) p) (λq p=>@QN.rec Q5 (λ_=>Q5->Bool) (λ_=>false) (λp q=>QL q p) (λ_ _=>false) (λ_ _=>false) (λ_ _=>false) p q) (λq p=>@QN.rec Q5 (λ_=>Q5->Bool) (λ_=>false) (λ_ _=>false) (λp q=>QL q p) (λ_ _=>false) (λ_ _=>false) p q) (λq p=>@QN.rec Q5 (λ_=>Q5->Bool) (λ_=>false) (λ_ _=>false) (λ_ _=>false) (λp q=>QL q p) (λ_ _=>false) p q) (λq p=>@QN.rec Q5 (λ_=>Q5->Bool) (λ_=>false) (λ_ _=>false) (λ_ _=>false) (λ_ _=>false) (λp q=>QL q p) p q)
def WY:QN Q6->(QN Q6->Res)->Res:=@QN.rec Q6 (λ_=>(QN Q6->Res)->Res) (λk=>k (.a (QN.e (α:=Q5)))) (λq k=>k (.b q)) (λq k=>k (.c q)) (λq k=>k (.d q)) (λq k=>WZ q λp=>k (.a p))
def QJ:QN Q6->QN Q6->Bool:=@QN.rec Q6 (λ_=>QN Q6->Bool) (λp=>@QN.rec Q6 (λ_=>Bool) true (λ_=>false) (λ_=>false) (λ_=>false) (λ_=>false) p) (λq p=>@QN.rec Q6 (λ_=>Q6->Bool) (λ_=>false) (λp q=>QK q p) (λ_ _=>false) (λ_ _=>false) (λ_ _=>false) p q) (λq p=>@QN.rec Q6 (λ_=>Q6->Bool) (λ_=>false) (λ_ _=>false) (λp q=>QK q p) (λ_ _=>false) (λ_ _=>false) p q) (λq p=>@QN.rec Q6 (λ_=>Q6->Bool) (λ_=>false) (λ_ _=>false) (λ_ _=>false) (λp q=>QK q p) (λ_ _=>false) p q) (λq p=>@QN.rec Q6 (λ_=>Q6->Bool) (λ_=>false) (λ_ _=>false) (λ_ _=>false) (λ_ _=>false) (λp q=>QK q p) p q)
def WX:QN Q7->(QN Q7->Res)->Res:=@QN.rec Q7 (λ_=>(QN Q7->Res)->Res) (λk=>k (.a (QN.e (α:=Q6)))) (λq k=>k (.b q)) (λq k=>k (.c q)) (λq k=>k (.d q)) (λq k=>WY q λp=>k (.a p))
def QI:QN Q7->QN Q7->Bool:=@QN.rec Q7 (λ_=>QN Q7->Bool) (λp=>@QN.rec Q7 (λ_=>Bool) true (λ_=>false) (λ_=>false) (λ_=>false) (λ_=>false) p) (λq p=>@QN.rec Q7 (λ_=>Q7->Bool) (λ_=>false) (λp q=>QJ q p) (λ_ _=>false) (λ_ _=>false) (λ_ _=>false) p q) (λq p=>@QN.rec Q7 (λ_=>Q7->Bool) (λ_=>false) (λ_ _=>false) (λp q=>QJ q p) (λ_ _=>false) (λ_ _=>false) p q) (λq p=>@QN.rec Q7 (λ_=>Q7->Bool) (λ_=>false) (λ_ _=>false) (λ_ _=>false) (λp q=>QJ q p) (λ_ _=>false) p q) (λq p=>@QN.rec Q7 (λ_=>Q7->Bool) (λ_=>false) (λ_ _=>false) (λ_ _=>false) (λ_ _=>false) (λp q=>QJ q p) p q)
def WW:QN Q8->(QN Q8->Res)->Res:=@QN.rec Q8 (λ_=>(QN Q8->Res)->Res) (λk=>k (.a (QN.e (α:=Q7)))) (λq k=>k (.b q)) (λq k=>k (.c q)) (λq k=>k (.d q)) (λq k=>WX q λp=>k (.a p))
def QH:QN Q8->QN Q8->Bool:=@QN.rec Q8 (λ_=>QN Q8->Bool) (λp=>@QN.rec Q8 (λ_=>Bool) true (λ_=>false) (λ_=>false) (λ_=>false) (λ_=>false) p) (λq p=>@QN.rec Q8 (λ_=>Q8->Bool) (λ_=>false) (λp q=>QI q p) (λ_ _=>false) (λ_ _=>false) (λ_ _=>false) p q) (λq p=>@QN.rec Q8 (λ_=>Q8->Bool) (λ_=>false) (λ_ _=>false) (λp q=>QI q p) (λ_ _=>false) (λ_ _=>false) p q) (λq p=>@QN.rec Q8 (λ_=>Q8->Bool) (λ_=>false) (λ_ _=>false) (λ_ _=>false) (λp q=>QI q p) (λ_ _=>false) p q) (λq p=>@QN.rec Q8 (λ_=>Q8->Bool) (λ_=>false) (λ_ _=>false) (λ_ _=>false) (λ_ _=>false) (λp q=>QI q p) p q)
def YV:QN Q9->(QN Q9->Res)->Res:=@QN.rec Q9 (λ_=>(QN Q9->Res)->Res) (λk=>k (.a (QN.e (α:=Q8)))) (λq k=>k (.b q)) (λq k=>k (.c q)) (λq k=>k (.d q)) (λq k=>WW q λp=>k (.a p))
def Vt:QN Q9->QN Q9->Bool:=@QN.rec Q9 (λ_=>QN Q9->Bool) (λp=>@QN.rec Q9 (λ_=>Bool) true (λ_=>false) (λ_=>false) (λ_=>false) (λ_=>false) p) (λq p=>@QN.rec Q9 (λ_=>Q9->Bool) (λ_=>false) (λp q=>QH q p) (λ_ _=>false) (λ_ _=>false) (λ_ _=>false) p q) (λq p=>@QN.rec Q9 (λ_=>Q9->Bool) (λ_=>false) (λ_ _=>false) (λp q=>QH q p) (λ_ _=>false) (λ_ _=>false) p q) (λq p=>@QN.rec Q9 (λ_=>Q9->Bool) (λ_=>false) (λ_ _=>false) (λ_ _=>false) (λp q=>QH q p) (λ_ _=>false) p q) (λq p=>@QN.rec Q9 (λ_=>Q9->Bool) (λ_=>false) (λ_ _=>false) (λ_ _=>false) (λ_ _=>false) (λp q=>QH q p) p q)
structure S where
 h:T O
 nx:Q
 ds:List Df
abbrev St:=T V->S->Res
abbrev Kr:=V->T O->Q->Res
abbrev Kw:=V->T O->Q->Res
abbrev Cl:=V->List V->Bool->T O->Q->Kr->Res
structure Cx where
 cl:Cl
 f:Q
 rd:Option Q
 env:List (Nat×St)
 kr:St
 ky:Kr
abbrev Xg:=T V->AO
abbrev Xs:=T V->(List V->Res)->Res
abbrev Dt:=V->T V->(T V->Res)->Res
abbrev Pg:=T V->T O->AO
abbrev Ag:=T V->(O->(Q->V)->Res)->Res
abbrev Wg:=T V->T O->Q->Kw->Res
abbrev Op:=Cx->St->St
structure D where
 run:Op
def Ll(q:Q)(t:T V)(k:V->Res):Res:=Yb q t k
def GB(q:Q)(t:T O)(k:O->Res):Res:=Yc q t k
def Mj(q:Q)(v:V)(t:T V)(k:T V->Res):Res:=Yr q v t k
def EU(q:Q)(v:O)(t:T O)(k:T O->Res):Res:=Yt q v t k
def Hp(q:Q)(k:Q->Res):Res:=YV q k
def dZ:St:=λ_ _=>.bad 200
def dY:St:=λ_ _=>.bad 4
def Zz:Kr:=λ_ _ _=>.bad 201
def fN(n:Nat)(k:Nat->Res):Res:=@Nat.rec (λ_=>(Nat->Res)->Res) (λk=>k (nat_lit 0)) (λm _ k=>k (Nat.succ m)) n k
def CX:Bool->Nat->Res->Res:=@Bool.rec (λ_=>Nat->Res->Res) (λn _=>.bad n) (λ_ k=>k)
def iN:Int->(Nat->Res)->Res:=@Int.rec (λ_=>(Nat->Res)->Res) (λm k=>k m) (λ_ _=>.bad 5)
def bo:IntKind->Nat:=@IntKind.rec (λ_=>Nat) (nat_lit 0) (nat_lit 1) (nat_lit 2) (nat_lit 3) (nat_lit 4) (nat_lit 5) (nat_lit 6) (nat_lit 7)
def Ya:IntKind->Nat:=@IntKind.rec (λ_=>Nat) (nat_lit 127) (nat_lit 32767) (nat_lit 2147483647) (nat_lit 9223372036854775807) (nat_lit 255) (nat_lit 65535) (nat_lit 4294967295) (nat_lit 18446744073709551615)
def Px(l:Nat):Nat:=Nat.pow (nat_lit 2) (Nat.mul (nat_lit 8) l)
def j3:Bool->Bool->Bool:=@Bool.rec (λ_=>Bool->Bool) (λ_=>false) (λb=>b)
def rN:Bool->Bool:=@Bool.rec (λ_=>Bool) true false
def VI:Bool->Bool->Bool:=@Bool.rec (λ_=>Bool->Bool) rN (λb=>b)
def IL:Bool->Res->Res->Res:=@Bool.rec (λ_=>Res->Res->Res) (λ_ b=>b) (λa _=>a)
def bF:Bool->AO:=@Bool.rec (λ_=>AO) (λk=>k (.bool false)) (λk=>k (.bool true))
def Qn:Bool->Bool->AO:=@Bool.rec (λ_=>Bool->AO) bF (λt k=>bF (rN t) k)
def aI2:Bool->St->St->St:=@Bool.rec (λ_=>St->St->St) (λ_ b=>b) (λa _=>a)
def tn(b w:Bool)(go skip:St):St:=aI2 (VI b w) go skip
def aSF:List V->St->St:=@List.rec V (λ_=>St->St) (λs=>s) (λ_ _ _ _=>dZ)
def fI:Int->(Int->Res)->Res:=@Int.rec (λ_=>(Int->Res)->Res) (λm k=>fN m λm=>k (.ofNat m)) (λm k=>fN m λm=>k (.negSucc m))
def aJO(kd:IntKind)(n:Int):Int:=kd.wrap n
def ml(kd:IntKind)(n:Int)(k:V->Res):Res:=fI (aJO kd n) λn=>k (.int kd n)
def yq(m:Nat)(kd:IntKind)(k:V->Res):Res :=
 @Bool.rec (λ_=>Nat->IntKind->AO) (λm kd k=>ml kd (.ofNat m) k) (λm kd k=>k (.int kd (.ofNat m))) (Nat.ble m (Ya kd)) m kd k
def zR:Int->IntKind->AO :=
 @Int.rec (λ_=>IntKind->AO) (λm kd k=>fN m λm=>yq m kd k) (λm kd k=>ml kd (.negSucc m) k)
def aVZ(a b:Nat):Int:=.ofNat a+.negSucc b
def aV0(a:Nat)(y:Int):Int:=.negSucc a+y
def VV:Int->Int->Int:=@Int.rec (λ_=>Int->Int) (λa y=>@Int.rec (λ_=>Nat->Int) (λb a=>.ofNat (Nat.add a b)) (λb a=>aVZ a b) y a) aV0
def aZo(a b:Nat):Int:=.ofNat a - .negSucc b
def aZp(a:Nat)(y:Int):Int:=.negSucc a-y
def U7:Int->Int->Int:=@Int.rec (λ_=>Int->Int) (λa y=>@Int.rec (λ_=>Nat->Int) (λb a=>@Bool.rec (λ_=>Int) (.negSucc (Nat.sub (Nat.sub b a) (nat_lit 1))) (.ofNat (Nat.sub a b)) (Nat.ble b a)) (λb a=>aZo a b) y a) aZp
def Jm:Int->Int->Bool:=@Int.rec (λ_=>Int->Bool) (λa y=>@Int.rec (λ_=>Nat->Bool) (λb a=>Nat.ble a b) (λ_ _=>false) y a) (λa y=>@Int.rec (λ_=>Nat->Bool) (λ_ _=>true) (λb a=>Nat.ble b a) y a)
def om:Int->Int->Bool:=@Int.rec (λ_=>Int->Bool) (λa y=>@Int.rec (λ_=>Nat->Bool) (λb a=>Nat.beq a b) (λ_ _=>false) y a) (λa y=>@Int.rec (λ_=>Nat->Bool) (λ_ _=>false) (λb a=>Nat.beq a b) y a)
def Vu:BinOp->IntKind->Int->Int->AO :=
 @BinOp.rec (λ_=>IntKind->Int->Int->AO)
  (λkd x y k=>zR (VV x y) kd k)
  (λkd x y k=>zR (U7 x y) kd k)
  (λkd x y k=>pA .mul kd x y k)
  (λkd x y k=>pA .quo kd x y k)
  (λkd x y k=>pA .rem kd x y k)
  (λkd x y k=>pA .and kd x y k)
  (λkd x y k=>pA .or kd x y k)
  (λkd x y k=>pA .xor kd x y k)
  (λkd x y k=>pA .shl kd x y k)
  (λkd x y k=>pA .shr kd x y k)
  (λkd x y k=>pA .andNot kd x y k)
  (λ_ x y k=>bF (om x y) k)
  (λ_ x y k=>bF (rN (om x y)) k)
  (λ_ x y k=>bF (rN (Jm y x)) k)
  (λ_ x y k=>bF (Jm x y) k)
  (λ_ x y k=>bF (rN (Jm x y)) k)
  (λ_ x y k=>bF (Jm y x) k)
def VN(l n m j:Nat)(k:V->Res):Res:=CX (Nat.ble (Nat.add l m) (nat_lit 4294967296)) 14 (fN (Nat.add l m) λl'=>fN (Nat.add n (Nat.mul j (Px l))) λn'=>k (.str l' n'))
def aI0:BinOp->Nat->Nat->Nat->Nat->AO :=
 @BinOp.rec (λ_=>Nat->Nat->Nat->Nat->AO)
  VN
  (λ_ _ _ _ _=>.bad 15) (λ_ _ _ _ _=>.bad 15) (λ_ _ _ _ _=>.bad 15) (λ_ _ _ _ _=>.bad 15) (λ_ _ _ _ _=>.bad 15) (λ_ _ _ _ _=>.bad 15) (λ_ _ _ _ _=>.bad 15) (λ_ _ _ _ _=>.bad 15) (λ_ _ _ _ _=>.bad 15) (λ_ _ _ _ _=>.bad 15)
  (λl n m j k=>bF (j3 (Nat.beq l m) (Nat.beq n j)) k)
  (λl n m j k=>bF (rN (j3 (Nat.beq l m) (Nat.beq n j))) k)
  (λ_ _ _ _ _=>.bad 15) (λ_ _ _ _ _=>.bad 15) (λ_ _ _ _ _=>.bad 15) (λ_ _ _ _ _=>.bad 15)
def je{α:Type}:List α->(Nat->Res)->Res:=@List.rec α (λ_=>(Nat->Res)->Res) (λk=>k (nat_lit 0)) (λ_ _ ih k=>ih λn=>fN (Nat.succ n) k)
def qU(l m:List V)(k:List V->Res):Res:=@List.rec V (λ_=>List V->(List V->Res)->Res) (λm k=>k m) (λv _ ih m k=>ih m λl'=>k (v::l')) l m k
def yw(fs args caps:List V)(k:List V->Res):Res :=
 @List.rec V (λ_=>List V->List V->(List V->Res)->Res) (λfs args k=>@List.rec V (λ_=>List V->(List V->Res)->Res) (λargs k=>k args) (λf fs _ args k=>qU (f::fs) args k) fs args k)
  (λc cs _ fs args k=>qU args (c::cs) λl=>qU fs l k) caps fs args k
def UW:O->(Nat->T V->Res)->Res :=
 @O.rec (λ_=>(Nat->T V->Res)->Res) (λ_=>.bad 10) (λn t _ _ _ _ k=>k n t) (λn t k=>k n t) (λ_ _=>.bad 10) (λ_ _=>.bad 10) (λ_ _=>.bad 10) (λ_ _=>.bad 10) (λ_ _ _=>.bad 10)
def vv:O->Bool:=@O.rec (λ_=>Bool) false (λ_ _ _ _ _ _=>true) (λ_ _=>false) (λ_=>false) (λ_=>false) (λ_=>false) (λ_=>false) (λ_ _=>false)
def Pv:O->(List (V×V)->Res)->Res :=
 @O.rec (λ_=>(List (V×V)->Res)->Res) (λ_=>.bad 11) (λ_ _ _ _ _ _ _=>.bad 11) (λ_ _ _=>.bad 11) (λes k=>k es) (λes k=>k es) (λ_ _=>.bad 11) (λ_ _=>.bad 11) (λ_ _ _=>.bad 11)
def aJA(ob:O)(es:List (V×V))(k:O->Res):Res :=
 @O.rec (λ_=>List (V×V)->A8) (λ_ _=>.bad 11) (λ_ _ _ _ _ _ _ _=>.bad 11) (λ_ _ _ _=>.bad 11) (λ_ es k=>k (.map es)) (λ_ es k=>k (.mapd es)) (λ_ _ _=>.bad 11) (λ_ _ _=>.bad 11) (λ_ _ _ _=>.bad 11) ob es k
abbrev Lk:=Nat->Jump->Q->T V->List Q->C->C->Q->Res
def n0(ob:O)(k:Lk):Res :=
 @O.rec (λ_=>Lk->Res) (λ_=>.bad 84) (λ_ _ _ _ _ _ _=>.bad 84) (λ_ _ _=>.bad 84) (λ_ _=>.bad 84) (λ_ _=>.bad 84) (λl k=>@Lp.rec (λ_=>Lk->Res) (λst pend fn tm params BV body B8 k=>k st pend fn tm params BV body B8) l k) (λ_ _=>.bad 84) (λ_ _ _=>.bad 84) ob k
def QB(h:T O)(o:Q)(off:Nat)(o':Q)(DE:Nat)(k:Bool->Res):Res :=
 @Bool.rec (λ_=>T O->Q->Nat->Q->Nat->(Bool->Res)->Res)
  (λh o _ o' _ k=>GB o h λx=>GB o' h λy=>CX (j3 (vv x) (vv y)) 20 (k false))
  (λh o off _ DE k=>@Bool.rec (λ_=>T O->Q->(Bool->Res)->Res) (λh o k=>GB o h λx=>CX (vv x) 20 (k false)) (λ_ _ k=>k true) (Nat.beq off DE) h o k) (Vt o o') h o off o' DE k
def OJ(h:T O)(o:Q)(off:Nat)(k:V->Res):Res :=
 GB o h λob=>UW ob λn t=>CX (Nat.ble (Nat.succ off) n) 46 (Ll (qn off) t k)
def Vj:Nat->Nat->T V->(List V->Res)->Res :=
 @Nat.rec (λ_=>Nat->T V->(List V->Res)->Res) (λ_ _ k=>k []) (λ_ ih i t k=>Ll (qn i) t λv=>ih (Nat.succ i) t λl=>k (v::l))
def NX(h:T O)(o:Q)(off n:Nat)(k:List V->Res):Res :=
 GB o h λob=>UW ob λm t=>CX (Nat.ble (Nat.add off n) m) 47 (Vj n off t k)
def qC:List V->Nat->T V->(T V->Res)->Res :=
 @List.rec V (λ_=>Nat->T V->(T V->Res)->Res) (λ_ t k=>k t) (λv _ ih i t k=>Mj (qn i) v t λt'=>ih (Nat.succ i) t' k)
def V1:List V->Nat->(List V->Res)->Res :=
 @List.rec V (λ_=>Nat->(List V->Res)->Res) (λn k=>@Nat.rec (λ_=>(List V->Res)->Res) (λk=>k []) (λ_ _ _=>.bad 30) n k)
  (λv _ ih n k=>@Nat.rec (λ_=>V->(Nat->(List V->Res)->Res)->(List V->Res)->Res) (λ_ _ k=>k []) (λn _ v ih k=>ih n λl'=>k (v::l')) n v ih k)
def Zn:List V->Nat->Nat->(List V->Res)->Res :=
 @List.rec V (λ_=>Nat->Nat->(List V->Res)->Res) (λoff n k=>@Nat.rec (λ_=>Nat->(List V->Res)->Res) (λn k=>V1 [] n k) (λ_ _ _ _=>.bad 31) off n k)
  (λv l ih off n k=>@Nat.rec (λ_=>List V->(Nat->Nat->(List V->Res)->Res)->Nat->(List V->Res)->Res) (λl _ n k=>V1 l n k) (λoff _ _ ih n k=>ih off n k) off (v::l) ih n k)
def U8:List V->Nat->AO :=
 @List.rec V (λ_=>Nat->AO) (λ_ _=>.bad 1) (λv _ ih n k=>@Nat.rec (λ_=>V->(Nat->AO)->AO) (λv _ k=>k v) (λm _ _ ih k=>ih m k) n v ih k)
def UM:Bool->Nat->Nat->List V->AO :=
 @Bool.rec (λ_=>Nat->Nat->List V->AO) (λoff _ l k=>U8 l off k) (λoff n l k=>Zn l off n λl'=>k (.agg l'))
def Zp:List V->Nat->List V->(List V->Res)->Res :=
 @List.rec V (λ_=>Nat->List V->(List V->Res)->Res)
  (λoff new k=>@Nat.rec (λ_=>List V->(List V->Res)->Res) (λnew k=>@List.rec V (λ_=>(List V->Res)->Res) (λk=>k []) (λ_ _ _ _=>.bad 26) new k) (λ_ _ _ _=>.bad 27) off new k)
  (λx r ih off new k=>@Nat.rec (λ_=>V->List V->(Nat->List V->(List V->Res)->Res)->List V->(List V->Res)->Res)
   (λx r ih new k=>@List.rec V (λ_=>V->List V->(Nat->List V->(List V->Res)->Res)->(List V->Res)->Res) (λx r _ k=>k (x::r)) (λv vs _ _ _ ih k=>ih (nat_lit 0) vs λl'=>k (v::l')) new x r ih k)
   (λoff _ x _ ih new k=>ih off new λl'=>k (x::l')) off x r ih new k)
def RY(c:Nat)(o:Q)(off len sz i:Nat)(k:V->Res):Res:=CX (Nat.ble (Nat.succ i) len) c (fN (Nat.add off (Nat.mul i sz)) λa=>k (.ptr o a))
def Vw(o:Q)(off cap sz lo hi:Nat)(k:V->Res):Res :=
 CX (j3 (Nat.ble lo hi) (Nat.ble hi cap)) 41 (fN (Nat.sub hi lo) λl=>fN (Nat.sub cap lo) λc=>IL (Nat.beq lo cap) (k (.sl o off l c)) (fN (Nat.add off (Nat.mul lo sz)) λa=>k (.sl o a l c)))
def Vv(o:Q)(off len sz lo hi:Nat)(k:V->Res):Res :=
 CX (j3 (Nat.ble lo hi) (Nat.ble hi len)) 43 (IL (Nat.ble (Nat.succ lo) len) (fN (Nat.sub hi lo) λl=>fN (Nat.add off (Nat.mul lo sz)) λa=>k (.su o a l sz)) (IL (Nat.beq lo (nat_lit 0)) (k (.su o off (nat_lit 0) sz)) (k .se)))
def RZ(len sz:Nat)(h:T O)(o:Q)(off:Nat)(k:Nat->List V->Res):Res:=@Nat.rec (λ_=>Res) (k (nat_lit 0) []) (λm _=>NX h o off (Nat.mul (Nat.succ m) sz) λl=>k (Nat.succ m) l) len
def Pj:Nat->Nat->(List V->Res)->Res :=
 @Nat.rec (λ_=>Nat->(List V->Res)->Res) (λ_ k=>k []) (λ_ ih n k=>fN (Nat.mod n (nat_lit 256)) λc=>fN (Nat.div n (nat_lit 256)) λn'=>ih n' λcs=>k (.int .u8 (.ofNat c)::cs))
def Vg:List Q->T O->(T O->Res)->Res:=@List.rec Q (λ_=>T O->(T O->Res)->Res) (λh k=>k h) (λq _ ih h k=>EU q .dead h λh'=>ih h' k)
def WN(n:Nat)(t:T V)(BW:List Q)(ty:Nat)(ex:Bool)(o:Q)(h:T O)(k:T O->Res):Res:=Vg BW h λh'=>EU o (.row n t [] (nat_lit 0) ty ex) h' k
def SE(n:Nat)(t:T V)(BW:List Q)(CB ty:Nat)(ex:Bool)(o:Q)(off:Nat)(vs:List V)(h:T O)(k:T O->Res):Res :=
 je vs λm=>CX (Nat.ble (Nat.add off m) n) 60 (qC vs off t λt'=>IL (Nat.ble CB off) (EU o (.row n t' BW CB ty ex) h k) (WN n t' BW ty ex o h k))
def aUk:O->Q->Nat->List V->T O->(T O->Res)->Res :=
 @O.rec (λ_=>Q->Nat->List V->T O->(T O->Res)->Res) (λ_ _ _ _ _=>.bad 61) SE
  (λ_ _ _ _ _ _ _=>.bad 61) (λ_ _ _ _ _ _=>.bad 61) (λ_ _ _ _ _ _=>.bad 61) (λ_ _ _ _ _ _=>.bad 61) (λ_ _ _ _ _ _=>.bad 61) (λ_ _ _ _ _ _ _=>.bad 61)
def Nq(o:Q)(off:Nat)(vs:List V)(h:T O)(k:T O->Res):Res:=GB o h λob=>aUk ob o off vs h k
def uw(ty sz len m:Nat)(old new:List V)(h:T O)(nx:Q)(k:Kw):Res :=
 CX (Nat.ble (Nat.add len m) (nat_lit 4294967296)) 112 (qC old (nat_lit 0) .nil λt=>qC new (Nat.mul len sz) t λt'=>fN (Nat.mul (Nat.add len m) sz) λn=>fN (Nat.add len m) λl=>EU nx (.row n t' [] (nat_lit 0) ty false) h λh'=>Hp nx λnx'=>k (.su nx (nat_lit 0) l sz) h' nx')
def Xx(m ty sz:Nat)(new:List V)(h:T O)(nx:Q)(k:Kw):Res:=@Nat.rec (λ_=>Res) (k .nils h nx) (λm _=>uw ty sz (nat_lit 0) (Nat.succ m) [] new h nx k) m
def VU(o:Q)(off len cap ty sz m:Nat)(new:List V)(h:T O)(nx:Q)(k:Kw):Res :=
 IL (Nat.ble (Nat.add len m) cap)
  (@Nat.rec (λ_=>Res) (k (.sl o off len cap) h nx) (λm _=>Nq o (Nat.add off (Nat.mul len sz)) new h λh'=>fN (Nat.add len (Nat.succ m)) λl=>k (.sl o off l cap) h' nx) m)
  (RZ len sz h o off λ_ old=>uw ty sz len m old new h nx k)
def aIW(n:Nat)(o:Q)(off len ty sz m:Nat)(new:List V)(t:T V)(BW:List Q)(Gz:Nat)(h:T O)(nx:Q)(k:Kw):Res :=
 CX (j3 (Nat.beq (Nat.add off (Nat.mul len sz)) n) (j3 (Nat.beq off (nat_lit 0)) (j3 (Nat.beq ty Gz) (Nat.ble (Nat.add len m) (nat_lit 4294967296))))) 64
  (qC new n t λt'=>fN (Nat.add n (Nat.mul m sz)) λn'=>fN (Nat.add len m) λl=>EU o (.ro n t) h λh'=>EU nx (.row n' t' (o::BW) n Gz false) h' λLj=>Hp nx λnx'=>k (.su nx off l sz) Lj nx')
def aIX(ob:O)(o:Q)(off len ty sz m:Nat)(new:List V)(h:T O)(nx:Q)(k:Kw):Res :=
 @O.rec (λ_=>Res) (.bad 65) (λn t BW _ Gz _=>IL (Nat.ble (Nat.add off (Nat.mul (Nat.add len m) sz)) n)
   (Nq o (Nat.add off (Nat.mul len sz)) new h λh'=>fN (Nat.add len m) λl=>k (.su o off l sz) h' nx) (aIW n o off len ty sz m new t BW Gz h nx k))
  (λ_ _=>.bad 65) (λ_=>.bad 65) (λ_=>.bad 65) (λ_=>.bad 65) (λ_=>.bad 65) (λ_ _=>.bad 65) ob
def Yw(m:Nat)(o:Q)(off len ty sz:Nat)(new:List V)(h:T O)(nx:Q)(k:Kw):Res :=
 @Nat.rec (λ_=>Res) (k (.su o off len sz) h nx) (λm _=>GB o h λob=>aIX ob o off len ty sz (Nat.succ m) new h nx k) m
def U6(ok:Bool)(z:V)(k:V->Res):Res:=@Bool.rec (λ_=>V->AO) (λ_ _=>.bad 120) (λz k=>k (.tup [z,.bool false])) ok z k
def Zy(ok:Bool)(v:V)(k:V->Res):Res:=@Bool.rec (λ_=>V->AO) (λv k=>k v) (λv k=>k (.tup [v,.bool true])) ok v k
def V2(ok:Bool)(tt:Nat)(z:V)(t:Nat)(u:V)(k:V->Res):Res:=IL (Nat.beq t tt) (Zy ok u k) (U6 ok z k)
def vI:V->(IntKind->Int->Res)->Res :=
 @V.rec (λ_=>(IntKind->Int->Res)->Res) (λ_=>PUnit)
  (λ_=>.bad 3)
  (λ_ _=>.bad 3)
  (λkd n k=>k kd n)
  (λ_ _ _=>.bad 3)
  (λ_=>.bad 3)
  (λ_ _ _=>.bad 3)
  (λ_=>.bad 3)
  (λ_ _ _ _ _=>.bad 3)
  (λ_ _ _ _ _=>.bad 3)
  (λ_=>.bad 3)
  (λ_=>.bad 3)
  (λ_ _=>.bad 3)
  (λ_=>.bad 3)
  (λ_ _ _ _ _ _=>.bad 3)
  (λ_ _=>.bad 3)
  (λ_=>.bad 3)
  (λ_ _ _ _=>.bad 3)
  (λ_ _ _=>.bad 3)
  (λ_ _ _=>.bad 3)
  (λ_ _=>.bad 3)
  ⟨⟩ (λ_ _ _ _=>⟨⟩)
def vB:V->(Bool->Res)->Res :=
 @V.rec (λ_=>(Bool->Res)->Res) (λ_=>PUnit)
  (λ_=>.bad 4)
  (λb k=>k b)
  (λ_ _ _=>.bad 4)
  (λ_ _ _=>.bad 4)
  (λ_=>.bad 4)
  (λ_ _ _=>.bad 4)
  (λ_=>.bad 4)
  (λ_ _ _ _ _=>.bad 4)
  (λ_ _ _ _ _=>.bad 4)
  (λ_=>.bad 4)
  (λ_=>.bad 4)
  (λ_ _=>.bad 4)
  (λ_=>.bad 4)
  (λ_ _ _ _ _ _=>.bad 4)
  (λ_ _=>.bad 4)
  (λ_=>.bad 4)
  (λ_ _ _ _=>.bad 4)
  (λ_ _ _=>.bad 4)
  (λ_ _ _=>.bad 4)
  (λ_ _=>.bad 4)
  ⟨⟩ (λ_ _ _ _=>⟨⟩)
def vN:V->(Nat->Res)->Res :=
 @V.rec (λ_=>(Nat->Res)->Res) (λ_=>PUnit)
  (λ_=>.bad 6)
  (λ_ _=>.bad 6)
  (λ_ n k=>iN n k)
  (λ_ _ _=>.bad 6)
  (λ_=>.bad 6)
  (λ_ _ _=>.bad 6)
  (λ_=>.bad 6)
  (λ_ _ _ _ _=>.bad 6)
  (λ_ _ _ _ _=>.bad 6)
  (λ_=>.bad 6)
  (λ_=>.bad 6)
  (λ_ _=>.bad 6)
  (λ_=>.bad 6)
  (λ_ _ _ _ _ _=>.bad 6)
  (λ_ _=>.bad 6)
  (λ_=>.bad 6)
  (λ_ _ _ _=>.bad 6)
  (λ_ _ _=>.bad 6)
  (λ_ _ _=>.bad 6)
  (λ_ _=>.bad 6)
  ⟨⟩ (λ_ _ _ _=>⟨⟩)
def vP:V->(Q->Nat->Res)->Res :=
 @V.rec (λ_=>(Q->Nat->Res)->Res) (λ_=>PUnit)
  (λ_=>.bad 7)
  (λ_ _=>.bad 7)
  (λ_ _ _=>.bad 7)
  (λ_ _ _=>.bad 7)
  (λ_=>.bad 7)
  (λo off k=>k o off)
  (λ_=>.bad 7)
  (λ_ _ _ _ _=>.bad 7)
  (λ_ _ _ _ _=>.bad 7)
  (λ_=>.bad 7)
  (λ_=>.bad 7)
  (λ_ _=>.bad 7)
  (λ_=>.bad 7)
  (λ_ _ _ _ _ _=>.bad 7)
  (λ_ _=>.bad 7)
  (λ_=>.bad 7)
  (λ_ _ _ _=>.bad 7)
  (λ_ _ _=>.bad 7)
  (λ_ _ _=>.bad 7)
  (λ_ _=>.bad 7)
  ⟨⟩ (λ_ _ _ _=>⟨⟩)
def Qb:V->(Q->Nat->Res)->(RK->Res)->Res :=
 @V.rec (λ_=>(Q->Nat->Res)->(RK->Res)->Res) (λ_=>PUnit)
  (λ_ _=>.bad 7)
  (λ_ _ _=>.bad 7)
  (λ_ _ _ _=>.bad 7)
  (λ_ _ _ _=>.bad 7)
  (λ_ _=>.bad 7)
  (λo off k _=>k o off)
  (λ_ _=>.bad 7)
  (λ_ _ _ _ _ _=>.bad 7)
  (λ_ _ _ _ _ _=>.bad 7)
  (λ_ _=>.bad 7)
  (λ_ _=>.bad 7)
  (λ_ _ _=>.bad 7)
  (λ_ _=>.bad 7)
  (λ_ _ _ _ _ _ _=>.bad 7)
  (λ_ _ _=>.bad 7)
  (λ_ _=>.bad 7)
  (λ_ _ _ _ _=>.bad 7)
  (λ_ _ _ _=>.bad 7)
  (λ_ _ _ _=>.bad 7)
  (λx _ kr=>kr x)
  ⟨⟩ (λ_ _ _ _=>⟨⟩)
def vS:V->(Nat->Nat->Res)->Res :=
 @V.rec (λ_=>(Nat->Nat->Res)->Res) (λ_=>PUnit)
  (λ_=>.bad 8)
  (λ_ _=>.bad 8)
  (λ_ _ _=>.bad 8)
  (λl n k=>k l n)
  (λ_=>.bad 8)
  (λ_ _ _=>.bad 8)
  (λ_=>.bad 8)
  (λ_ _ _ _ _=>.bad 8)
  (λ_ _ _ _ _=>.bad 8)
  (λ_=>.bad 8)
  (λ_=>.bad 8)
  (λ_ _=>.bad 8)
  (λ_=>.bad 8)
  (λ_ _ _ _ _ _=>.bad 8)
  (λ_ _=>.bad 8)
  (λ_=>.bad 8)
  (λ_ _ _ _=>.bad 8)
  (λ_ _ _=>.bad 8)
  (λ_ _ _=>.bad 8)
  (λ_ _=>.bad 8)
  ⟨⟩ (λ_ _ _ _=>⟨⟩)
def vA:V->(List V->Res)->Res :=
 @V.rec (λ_=>(List V->Res)->Res) (λ_=>PUnit)
  (λ_=>.bad 9)
  (λ_ _=>.bad 9)
  (λ_ _ _=>.bad 9)
  (λ_ _ _=>.bad 9)
  (λ_=>.bad 9)
  (λ_ _ _=>.bad 9)
  (λ_=>.bad 9)
  (λ_ _ _ _ _=>.bad 9)
  (λ_ _ _ _ _=>.bad 9)
  (λ_=>.bad 9)
  (λ_=>.bad 9)
  (λ_ _=>.bad 9)
  (λ_=>.bad 9)
  (λ_ _ _ _ _ _=>.bad 9)
  (λ_ _=>.bad 9)
  (λ_=>.bad 9)
  (λ_ _ _ _=>.bad 9)
  (λvs _ k=>k vs)
  (λ_ _ _=>.bad 9)
  (λ_ _=>.bad 9)
  ⟨⟩ (λ_ _ _ _=>⟨⟩)
def vT:V->(List V->Res)->Res :=
 @V.rec (λ_=>(List V->Res)->Res) (λ_=>PUnit)
  (λ_=>.bad 55)
  (λ_ _=>.bad 55)
  (λ_ _ _=>.bad 55)
  (λ_ _ _=>.bad 55)
  (λ_=>.bad 55)
  (λ_ _ _=>.bad 55)
  (λ_=>.bad 55)
  (λ_ _ _ _ _=>.bad 55)
  (λ_ _ _ _ _=>.bad 55)
  (λ_=>.bad 55)
  (λ_=>.bad 55)
  (λ_ _=>.bad 55)
  (λ_=>.bad 55)
  (λ_ _ _ _ _ _=>.bad 55)
  (λ_ _=>.bad 55)
  (λ_=>.bad 55)
  (λ_ _ _ _=>.bad 55)
  (λ_ _ _=>.bad 55)
  (λvs _ k=>k vs)
  (λ_ _=>.bad 55)
  ⟨⟩ (λ_ _ _ _=>⟨⟩)
def vM:V->Nat->(Q->Res)->Res->Res :=
 @V.rec (λ_=>Nat->(Q->Res)->Res->Res) (λ_=>PUnit)
  (λc _ _=>.bad c)
  (λ_ c _ _=>.bad c)
  (λ_ _ c _ _=>.bad c)
  (λ_ _ c _ _=>.bad c)
  (λc _ _=>.bad c)
  (λ_ _ c _ _=>.bad c)
  (λc _ _=>.bad c)
  (λ_ _ _ _ c _ _=>.bad c)
  (λ_ _ _ _ c _ _=>.bad c)
  (λc _ _=>.bad c)
  (λ_ _ kn=>kn)
  (λo _ k _=>k o)
  (λc _ _=>.bad c)
  (λ_ _ _ _ _ c _ _=>.bad c)
  (λ_ c _ _=>.bad c)
  (λc _ _=>.bad c)
  (λ_ _ _ c _ _=>.bad c)
  (λ_ _ c _ _=>.bad c)
  (λ_ _ c _ _=>.bad c)
  (λ_ c _ _=>.bad c)
  ⟨⟩ (λ_ _ _ _=>⟨⟩)
def Nr:V->Nat->(Nat->Nat->Res)->Res :=
 @V.rec (λ_=>Nat->(Nat->Nat->Res)->Res) (λ_=>PUnit)
  (λc _=>.bad c)
  (λ_ c _=>.bad c)
  (λ_ _ c _=>.bad c)
  (λl n _ k=>k l n)
  (λc _=>.bad c)
  (λ_ _ c _=>.bad c)
  (λc _=>.bad c)
  (λ_ _ _ _ c _=>.bad c)
  (λ_ _ _ _ c _=>.bad c)
  (λc _=>.bad c)
  (λc _=>.bad c)
  (λ_ c _=>.bad c)
  (λc _=>.bad c)
  (λ_ _ _ _ _ c _=>.bad c)
  (λ_ c _=>.bad c)
  (λc _=>.bad c)
  (λ_ _ _ c _=>.bad c)
  (λ_ _ c _=>.bad c)
  (λ_ _ c _=>.bad c)
  (λ_ c _=>.bad c)
  ⟨⟩ (λ_ _ _ _=>⟨⟩)
def Nt:V->Nat->(IntKind->Int->Res)->Res :=
 @V.rec (λ_=>Nat->(IntKind->Int->Res)->Res) (λ_=>PUnit)
  (λc _=>.bad c)
  (λ_ c _=>.bad c)
  (λkd n _ k=>k kd n)
  (λ_ _ c _=>.bad c)
  (λc _=>.bad c)
  (λ_ _ c _=>.bad c)
  (λc _=>.bad c)
  (λ_ _ _ _ c _=>.bad c)
  (λ_ _ _ _ c _=>.bad c)
  (λc _=>.bad c)
  (λc _=>.bad c)
  (λ_ c _=>.bad c)
  (λc _=>.bad c)
  (λ_ _ _ _ _ c _=>.bad c)
  (λ_ c _=>.bad c)
  (λc _=>.bad c)
  (λ_ _ _ c _=>.bad c)
  (λ_ _ c _=>.bad c)
  (λ_ _ c _=>.bad c)
  (λ_ c _=>.bad c)
  ⟨⟩ (λ_ _ _ _=>⟨⟩)
def Ns:V->Nat->(Q->Nat->Res)->Res :=
 @V.rec (λ_=>Nat->(Q->Nat->Res)->Res) (λ_=>PUnit)
  (λc _=>.bad c)
  (λ_ c _=>.bad c)
  (λ_ _ c _=>.bad c)
  (λ_ _ c _=>.bad c)
  (λc _=>.bad c)
  (λo off _ k=>k o off)
  (λc _=>.bad c)
  (λ_ _ _ _ c _=>.bad c)
  (λ_ _ _ _ c _=>.bad c)
  (λc _=>.bad c)
  (λc _=>.bad c)
  (λ_ c _=>.bad c)
  (λc _=>.bad c)
  (λ_ _ _ _ _ c _=>.bad c)
  (λ_ c _=>.bad c)
  (λc _=>.bad c)
  (λ_ _ _ c _=>.bad c)
  (λ_ _ c _=>.bad c)
  (λ_ _ c _=>.bad c)
  (λ_ c _=>.bad c)
  ⟨⟩ (λ_ _ _ _=>⟨⟩)
def U2:V->(Nat->Res)->Res :=
 @V.rec (λ_=>(Nat->Res)->Res) (λ_=>PUnit)
  (λ_=>.bad 39)
  (λ_ _=>.bad 39)
  (λ_ _ _=>.bad 39)
  (λ_ _ _=>.bad 39)
  (λ_=>.bad 39)
  (λ_ _ _=>.bad 39)
  (λk=>k (nat_lit 0))
  (λ_ _ len _ k=>k len)
  (λ_ _ len _ k=>k len)
  (λk=>k (nat_lit 0))
  (λ_=>.bad 39)
  (λ_ _=>.bad 39)
  (λ_=>.bad 39)
  (λ_ _ _ _ _ _=>.bad 39)
  (λ_ _=>.bad 39)
  (λ_=>.bad 39)
  (λ_ _ _ _=>.bad 39)
  (λ_ _ _=>.bad 39)
  (λ_ _ _=>.bad 39)
  (λx k=>Ua x k)
  ⟨⟩ (λ_ _ _ _=>⟨⟩)
def aJJ:V->Nat->Nat->AO :=
 @V.rec (λ_=>Nat->Nat->AO) (λ_=>PUnit)
  (λ_ _ _=>.bad 38)
  (λ_ _ _ _=>.bad 38)
  (λ_ _ _ _ _=>.bad 38)
  (λ_ _ _ _ _=>.bad 38)
  (λ_ _ _=>.bad 38)
  (λ_ _ _ _ _=>.bad 38)
  (λ_ _ _=>.bad 38)
  (λo off len _ sz i k=>RY (nat_lit 36) o off len sz i k)
  (λo off len _ sz i k=>RY (nat_lit 37) o off len sz i k)
  (λ_ _ _=>.bad 38)
  (λ_ _ _=>.bad 38)
  (λ_ _ _ _=>.bad 38)
  (λ_ _ _=>.bad 38)
  (λ_ _ _ _ _ _ _ _=>.bad 38)
  (λ_ _ _ _=>.bad 38)
  (λ_ _ _=>.bad 38)
  (λ_ _ _ _ _ _=>.bad 38)
  (λ_ _ _ _ _=>.bad 38)
  (λ_ _ _ _ _=>.bad 38)
  (λx sz i k=>ui sz x i k)
  ⟨⟩ (λ_ _ _ _=>⟨⟩)
def Nv:V->(List V->Res)->Res :=
 @V.rec (λ_=>(List V->Res)->Res) (λ_=>PUnit)
  (λ_=>.bad 111)
  (λb k=>k [.bool b])
  (λkd n k=>k [.int kd n])
  (λl n k=>k [.str l n])
  (λk=>k [.nilp])
  (λo off k=>k [.ptr o off])
  (λk=>k [.nils])
  (λo off len cap k=>k [.sl o off len cap])
  (λo off len z k=>k [.su o off len z])
  (λk=>k [.se])
  (λk=>k [.nilm])
  (λo k=>k [.map o])
  (λk=>k [.nilf])
  (λf fs cs _ _ k=>k [.fn f fs cs])
  (λl k=>k [.yld l])
  (λk=>k [.nili])
  (λt u _ k=>k [.ifc t u])
  (λvs _ k=>k vs)
  (λ_ _ _=>.bad 110)
  (λx k=>k [.rr x])
  ⟨⟩ (λ_ _ _ _=>⟨⟩)
def YN:V->AO :=
 @V.rec (λ_=>AO) (λ_=>PUnit)
  (λ_=>.bad 48)
  (λ_ _=>.bad 48)
  (λ_ _ _=>.bad 48)
  (λ_ _ _=>.bad 48)
  (λ_=>.bad 48)
  (λo off k=>k (.ptr o off))
  (λ_=>.bad 48)
  (λ_ _ _ _ _=>.bad 48)
  (λ_ _ _ _ _=>.bad 48)
  (λ_=>.bad 48)
  (λ_=>.bad 48)
  (λ_ _=>.bad 48)
  (λ_=>.bad 48)
  (λf fs cs _ _ k=>k (.fn f fs cs))
  (λl k=>k (.yld l))
  (λ_=>.bad 48)
  (λt u _ k=>k (.ifc t u))
  (λ_ _ _=>.bad 48)
  (λ_ _ _=>.bad 48)
  (λx k=>R8 x k)
  ⟨⟩ (λ_ _ _ _=>⟨⟩)
def aJH:V->BinOp->IntKind->Int->AO :=
 @V.rec (λ_=>BinOp->IntKind->Int->AO) (λ_=>PUnit)
  (λ_ _ _ _=>.bad 17)
  (λ_ _ _ _ _=>.bad 17)
  (λkd n op ka x k=>CX (Nat.beq (bo ka) (bo kd)) 16 (Vu op ka x n k))
  (λ_ _ _ _ _ _=>.bad 17)
  (λ_ _ _ _=>.bad 17)
  (λ_ _ _ _ _ _=>.bad 17)
  (λ_ _ _ _=>.bad 17)
  (λ_ _ _ _ _ _ _ _=>.bad 17)
  (λ_ _ _ _ _ _ _ _=>.bad 17)
  (λ_ _ _ _=>.bad 17)
  (λ_ _ _ _=>.bad 17)
  (λ_ _ _ _ _=>.bad 17)
  (λ_ _ _ _=>.bad 17)
  (λ_ _ _ _ _ _ _ _ _=>.bad 17)
  (λ_ _ _ _ _=>.bad 17)
  (λ_ _ _ _=>.bad 17)
  (λ_ _ _ _ _ _ _=>.bad 17)
  (λ_ _ _ _ _ _=>.bad 17)
  (λ_ _ _ _ _ _=>.bad 17)
  (λ_ _ _ _ _=>.bad 17)
  ⟨⟩ (λ_ _ _ _=>⟨⟩)
def aJI:V->BinOp->Nat->Nat->AO :=
 @V.rec (λ_=>BinOp->Nat->Nat->AO) (λ_=>PUnit)
  (λ_ _ _ _=>.bad 18)
  (λ_ _ _ _ _=>.bad 18)
  (λ_ _ _ _ _ _=>.bad 18)
  (λl n op la na k=>aI0 op la na l n k)
  (λ_ _ _ _=>.bad 18)
  (λ_ _ _ _ _ _=>.bad 18)
  (λ_ _ _ _=>.bad 18)
  (λ_ _ _ _ _ _ _ _=>.bad 18)
  (λ_ _ _ _ _ _ _ _=>.bad 18)
  (λ_ _ _ _=>.bad 18)
  (λ_ _ _ _=>.bad 18)
  (λ_ _ _ _ _=>.bad 18)
  (λ_ _ _ _=>.bad 18)
  (λ_ _ _ _ _ _ _ _ _=>.bad 18)
  (λ_ _ _ _ _=>.bad 18)
  (λ_ _ _ _=>.bad 18)
  (λ_ _ _ _ _ _ _=>.bad 18)
  (λ_ _ _ _ _ _=>.bad 18)
  (λ_ _ _ _ _ _=>.bad 18)
  (λ_ _ _ _ _=>.bad 18)
  ⟨⟩ (λ_ _ _ _=>⟨⟩)
def YQ:V->BinOp->V->AO :=
 @V.rec (λ_=>BinOp->V->AO) (λ_=>PUnit)
  (λ_ _ _=>.bad 19)
  (λ_ _ _ _=>.bad 19)
  (λkd n op y k=>aJH y op kd n k)
  (λl n op y k=>aJI y op l n k)
  (λ_ _ _=>.bad 19)
  (λ_ _ _ _ _=>.bad 19)
  (λ_ _ _=>.bad 19)
  (λ_ _ _ _ _ _ _=>.bad 19)
  (λ_ _ _ _ _ _ _=>.bad 19)
  (λ_ _ _=>.bad 19)
  (λ_ _ _=>.bad 19)
  (λ_ _ _ _=>.bad 19)
  (λ_ _ _=>.bad 19)
  (λ_ _ _ _ _ _ _ _=>.bad 19)
  (λ_ _ _ _=>.bad 19)
  (λ_ _ _=>.bad 19)
  (λ_ _ _ _ _ _=>.bad 19)
  (λ_ _ _ _ _=>.bad 19)
  (λ_ _ _ _ _=>.bad 19)
  (λ_ _ _ _=>.bad 19)
  ⟨⟩ (λ_ _ _ _=>⟨⟩)
def Nu:V->(Q->List V->List V->Res)->(Q->Res)->Res :=
 @V.rec (λ_=>(Q->List V->List V->Res)->(Q->Res)->Res) (λ_=>PUnit)
  (λ_ _=>.bad 85)
  (λ_ _ _=>.bad 85)
  (λ_ _ _ _=>.bad 85)
  (λ_ _ _ _=>.bad 85)
  (λ_ _=>.bad 85)
  (λ_ _ _ _=>.bad 85)
  (λ_ _=>.bad 85)
  (λ_ _ _ _ _ _=>.bad 85)
  (λ_ _ _ _ _ _=>.bad 85)
  (λ_ _=>.bad 85)
  (λ_ _=>.bad 85)
  (λ_ _ _=>.bad 85)
  (λ_ _=>.bad 85)
  (λf fs cs _ _ k _=>k f fs cs)
  (λl _ ky=>ky l)
  (λ_ _=>.bad 85)
  (λ_ _ _ _ _=>.bad 85)
  (λ_ _ _ _=>.bad 85)
  (λ_ _ _ _=>.bad 85)
  (λ_ _ _=>.bad 85)
  ⟨⟩ (λ_ _ _ _=>⟨⟩)
def xQ:V->Bool->St->St->St :=
 @V.rec (λ_=>Bool->St->St->St) (λ_=>PUnit)
  (λ_ _ _=>dZ)
  (λb want go skip=>tn b want go skip)
  (λ_ _ _ _ _=>dZ)
  (λ_ _ _ _ _=>dZ)
  (λ_ _ _=>dZ)
  (λ_ _ _ _ _=>dZ)
  (λ_ _ _=>dZ)
  (λ_ _ _ _ _ _ _=>dZ)
  (λ_ _ _ _ _ _ _=>dZ)
  (λ_ _ _=>dZ)
  (λ_ _ _=>dZ)
  (λ_ _ _ _=>dZ)
  (λ_ _ _=>dZ)
  (λ_ _ _ _ _ _ _ _=>dZ)
  (λ_ _ _ _=>dZ)
  (λ_ _ _=>dZ)
  (λ_ _ _ _ _ _=>dZ)
  (λ_ _ _ _ _=>dZ)
  (λvs _ _ _ skip=>aSF vs skip)
  (λ_ _ _ _=>dZ)
  ⟨⟩ (λ_ _ _ _=>⟨⟩)
def VX:V->St->St->St :=
 @V.rec (λ_=>St->St->St) (λ_=>PUnit)
  (λ_ _=>dY)
  (λb x y=>aI2 b x y)
  (λ_ _ _ _=>dY)
  (λ_ _ _ _=>dY)
  (λ_ _=>dY)
  (λ_ _ _ _=>dY)
  (λ_ _=>dY)
  (λ_ _ _ _ _ _=>dY)
  (λ_ _ _ _ _ _=>dY)
  (λ_ _=>dY)
  (λ_ _=>dY)
  (λ_ _ _=>dY)
  (λ_ _=>dY)
  (λ_ _ _ _ _ _ _=>dY)
  (λ_ _ _=>dY)
  (λ_ _=>dY)
  (λ_ _ _ _ _=>dY)
  (λ_ _ _ _=>dY)
  (λ_ _ _ _=>dY)
  (λ_ _ _=>dY)
  ⟨⟩ (λ_ _ _ _=>⟨⟩)
def yo:V->(Bool->Res)->Res :=
 @V.rec (λ_=>(Bool->Res)->Res) (λ_=>PUnit)
  (λ_=>.bad 21)
  (λ_ _=>.bad 21)
  (λ_ _ _=>.bad 21)
  (λ_ _ _=>.bad 21)
  (λ_=>.bad 21)
  (λ_ _ _=>.bad 21)
  (λk=>k true)
  (λ_ _ _ _ k=>k false)
  (λ_ _ _ _ k=>k false)
  (λk=>k false)
  (λ_=>.bad 21)
  (λ_ _=>.bad 21)
  (λ_=>.bad 21)
  (λ_ _ _ _ _ _=>.bad 21)
  (λ_ _=>.bad 21)
  (λ_=>.bad 21)
  (λ_ _ _ _=>.bad 21)
  (λ_ _ _=>.bad 21)
  (λ_ _ _=>.bad 21)
  (λx k=>Yg x k)
  ⟨⟩ (λ_ _ _ _=>⟨⟩)
def yn:V->(Bool->Res)->Res :=
 @V.rec (λ_=>(Bool->Res)->Res) (λ_=>PUnit)
  (λ_=>.bad 21)
  (λ_ _=>.bad 21)
  (λ_ _ _=>.bad 21)
  (λ_ _ _=>.bad 21)
  (λ_=>.bad 21)
  (λ_ _ _=>.bad 21)
  (λ_=>.bad 21)
  (λ_ _ _ _ _=>.bad 21)
  (λ_ _ _ _ _=>.bad 21)
  (λ_=>.bad 21)
  (λk=>k true)
  (λ_ k=>k false)
  (λ_=>.bad 21)
  (λ_ _ _ _ _ _=>.bad 21)
  (λ_ _=>.bad 21)
  (λ_=>.bad 21)
  (λ_ _ _ _=>.bad 21)
  (λ_ _ _=>.bad 21)
  (λ_ _ _=>.bad 21)
  (λ_ _=>.bad 21)
  ⟨⟩ (λ_ _ _ _=>⟨⟩)
def yk:V->(Bool->Res)->Res :=
 @V.rec (λ_=>(Bool->Res)->Res) (λ_=>PUnit)
  (λ_=>.bad 21)
  (λ_ _=>.bad 21)
  (λ_ _ _=>.bad 21)
  (λ_ _ _=>.bad 21)
  (λ_=>.bad 21)
  (λ_ _ _=>.bad 21)
  (λ_=>.bad 21)
  (λ_ _ _ _ _=>.bad 21)
  (λ_ _ _ _ _=>.bad 21)
  (λ_=>.bad 21)
  (λ_=>.bad 21)
  (λ_ _=>.bad 21)
  (λk=>k true)
  (λ_ _ _ _ _ k=>k false)
  (λ_ k=>k false)
  (λ_=>.bad 21)
  (λ_ _ _ _=>.bad 21)
  (λ_ _ _=>.bad 21)
  (λ_ _ _=>.bad 21)
  (λ_ _=>.bad 21)
  ⟨⟩ (λ_ _ _ _=>⟨⟩)
def ym:V->(Bool->Res)->Res :=
 @V.rec (λ_=>(Bool->Res)->Res) (λ_=>PUnit)
  (λ_=>.bad 21)
  (λ_ _=>.bad 21)
  (λ_ _ _=>.bad 21)
  (λ_ _ _=>.bad 21)
  (λ_=>.bad 21)
  (λ_ _ _=>.bad 21)
  (λ_=>.bad 21)
  (λ_ _ _ _ _=>.bad 21)
  (λ_ _ _ _ _=>.bad 21)
  (λ_=>.bad 21)
  (λ_=>.bad 21)
  (λ_ _=>.bad 21)
  (λ_=>.bad 21)
  (λ_ _ _ _ _ _=>.bad 21)
  (λ_ _=>.bad 21)
  (λk=>k true)
  (λ_ _ _ k=>k false)
  (λ_ _ _=>.bad 21)
  (λ_ _ _=>.bad 21)
  (λ_ _=>.bad 21)
  ⟨⟩ (λ_ _ _ _=>⟨⟩)
def aJL:V->(Bool->Res)->Res :=
 @V.rec (λ_=>(Bool->Res)->Res) (λ_=>PUnit)
  (λ_=>.bad 23)
  (λ_ _=>.bad 23)
  (λ_ _ _=>.bad 23)
  (λ_ _ _=>.bad 23)
  (λk=>k true)
  (λ_ _ k=>k false)
  (λ_=>.bad 23)
  (λ_ _ _ _ _=>.bad 23)
  (λ_ _ _ _ _=>.bad 23)
  (λ_=>.bad 23)
  (λ_=>.bad 23)
  (λ_ _=>.bad 23)
  (λ_=>.bad 23)
  (λ_ _ _ _ _ _=>.bad 23)
  (λ_ _=>.bad 23)
  (λ_=>.bad 23)
  (λ_ _ _ _=>.bad 23)
  (λ_ _ _=>.bad 23)
  (λ_ _ _=>.bad 23)
  (λ_ _=>.bad 23)
  ⟨⟩ (λ_ _ _ _=>⟨⟩)
def aJM:V->T O->Q->Nat->(Bool->Res)->Res :=
 @V.rec (λ_=>T O->Q->Nat->(Bool->Res)->Res) (λ_=>PUnit)
  (λ_ _ _ _=>.bad 24)
  (λ_ _ _ _ _=>.bad 24)
  (λ_ _ _ _ _ _=>.bad 24)
  (λ_ _ _ _ _ _=>.bad 24)
  (λ_ _ _ k=>k false)
  (λo off h p a k=>QB h p a o off k)
  (λ_ _ _ _=>.bad 24)
  (λ_ _ _ _ _ _ _ _=>.bad 24)
  (λ_ _ _ _ _ _ _ _=>.bad 24)
  (λ_ _ _ _=>.bad 24)
  (λ_ _ _ _=>.bad 24)
  (λ_ _ _ _ _=>.bad 24)
  (λ_ _ _ _=>.bad 24)
  (λ_ _ _ _ _ _ _ _ _=>.bad 24)
  (λ_ _ _ _ _=>.bad 24)
  (λ_ _ _ _=>.bad 24)
  (λ_ _ _ _ _ _ _=>.bad 24)
  (λ_ _ _ _ _ _=>.bad 24)
  (λ_ _ _ _ _ _=>.bad 24)
  (λ_ _ _ _ _=>.bad 24)
  ⟨⟩ (λ_ _ _ _=>⟨⟩)
def aED:V->T O->V->(Bool->Res)->Res :=
 @V.rec (λ_=>T O->V->(Bool->Res)->Res) (λ_=>PUnit)
  (λ_ _ _=>.bad 25)
  (λ_ _ _ _=>.bad 25)
  (λ_ _ _ _ _=>.bad 25)
  (λ_ _ _ _ _=>.bad 25)
  (λ_ y k=>aJL y k)
  (λo off h y k=>aJM y h o off k)
  (λ_ _ _=>.bad 25)
  (λ_ _ _ _ _ _ _=>.bad 25)
  (λ_ _ _ _ _ _ _=>.bad 25)
  (λ_ _ _=>.bad 25)
  (λ_ _ _=>.bad 25)
  (λ_ _ _ _=>.bad 25)
  (λ_ _ _=>.bad 25)
  (λ_ _ _ _ _ _ _ _=>.bad 25)
  (λ_ _ _ _=>.bad 25)
  (λ_ _ _=>.bad 25)
  (λ_ _ _ _ _ _=>.bad 25)
  (λ_ _ _ _ _=>.bad 25)
  (λ_ _ _ _ _=>.bad 25)
  (λ_ _ _ _=>.bad 25)
  ⟨⟩ (λ_ _ _ _=>⟨⟩)
def YP:V->Nat->Nat->Nat->AO :=
 @V.rec (λ_=>Nat->Nat->Nat->AO) (λ_=>PUnit)
  (λ_ _ _ _=>.bad 45)
  (λ_ _ _ _ _=>.bad 45)
  (λ_ _ _ _ _ _=>.bad 45)
  (λ_ _ _ _ _ _=>.bad 45)
  (λ_ _ _ _=>.bad 45)
  (λ_ _ _ _ _ _=>.bad 45)
  (λ_ lo hi k=>CX (j3 (Nat.beq lo (nat_lit 0)) (Nat.beq hi (nat_lit 0))) 40 (k .nils))
  (λo off _ cap sz lo hi k=>Vw o off cap sz lo hi k)
  (λo off len z sz lo hi k=>CX (Nat.beq sz z) 43 (Vv o off len sz lo hi k))
  (λ_ lo hi k=>CX (j3 (Nat.beq lo (nat_lit 0)) (Nat.beq hi (nat_lit 0))) 45 (k .se))
  (λ_ _ _ _=>.bad 45)
  (λ_ _ _ _ _=>.bad 45)
  (λ_ _ _ _=>.bad 45)
  (λ_ _ _ _ _ _ _ _ _=>.bad 45)
  (λ_ _ _ _ _=>.bad 45)
  (λ_ _ _ _=>.bad 45)
  (λ_ _ _ _ _ _ _=>.bad 45)
  (λ_ _ _ _ _ _=>.bad 45)
  (λ_ _ _ _ _ _=>.bad 45)
  (λx _ lo hi k=>zm x lo hi none k)
  ⟨⟩ (λ_ _ _ _=>⟨⟩)
def aEr:V->Nat->T O->(Nat->List V->Res)->Res :=
 @V.rec (λ_=>Nat->T O->(Nat->List V->Res)->Res) (λ_=>PUnit)
  (λ_ _ _=>.bad 62)
  (λ_ _ _ _=>.bad 62)
  (λ_ _ _ _ _=>.bad 62)
  (λl n sz _ k=>CX (Nat.beq sz (nat_lit 1)) 62 (Pj l n λcs=>k l cs))
  (λ_ _ _=>.bad 62)
  (λ_ _ _ _ _=>.bad 62)
  (λ_ _ k=>k (nat_lit 0) [])
  (λo off len _ sz h k=>RZ len sz h o off k)
  (λo off len _ sz h k=>RZ len sz h o off k)
  (λ_ _ k=>k (nat_lit 0) [])
  (λ_ _ _=>.bad 62)
  (λ_ _ _ _=>.bad 62)
  (λ_ _ _=>.bad 62)
  (λ_ _ _ _ _ _ _ _=>.bad 62)
  (λ_ _ _ _=>.bad 62)
  (λ_ _ _=>.bad 62)
  (λ_ _ _ _ _ _=>.bad 62)
  (λ_ _ _ _ _=>.bad 62)
  (λ_ _ _ _ _=>.bad 62)
  (λx sz h k=>nz sz x h k)
  ⟨⟩ (λ_ _ _ _=>⟨⟩)
def WS:V->Nat->Nat->Nat->List V->T O->Q->Kw->Res :=
 @V.rec (λ_=>Nat->Nat->Nat->List V->T O->Q->Kw->Res) (λ_=>PUnit)
  (λ_ _ _ _ _ _ _=>.bad 66)
  (λ_ _ _ _ _ _ _ _=>.bad 66)
  (λ_ _ _ _ _ _ _ _ _=>.bad 66)
  (λ_ _ _ _ _ _ _ _ _=>.bad 66)
  (λ_ _ _ _ _ _ _=>.bad 66)
  (λ_ _ _ _ _ _ _ _ _=>.bad 66)
  (λty sz m new h nx k=>Xx m ty sz new h nx k)
  (λo off len cap ty sz m new h nx k=>VU o off len cap ty sz m new h nx k)
  (λo off len z ty sz m new h nx k=>CX (Nat.beq sz z) 63 (Yw m o off len ty sz new h nx k))
  (λ_ _ _ _ _ _ _=>.bad 66)
  (λ_ _ _ _ _ _ _=>.bad 66)
  (λ_ _ _ _ _ _ _ _=>.bad 66)
  (λ_ _ _ _ _ _ _=>.bad 66)
  (λ_ _ _ _ _ _ _ _ _ _ _ _=>.bad 66)
  (λ_ _ _ _ _ _ _ _=>.bad 66)
  (λ_ _ _ _ _ _ _=>.bad 66)
  (λ_ _ _ _ _ _ _ _ _ _=>.bad 66)
  (λ_ _ _ _ _ _ _ _ _=>.bad 66)
  (λ_ _ _ _ _ _ _ _ _=>.bad 66)
  (λx ty sz m new h nx k=>Xw ty sz x m new h nx k)
  ⟨⟩ (λ_ _ _ _=>⟨⟩)
def WQ:V->Bool->Nat->V->AO :=
 @V.rec (λ_=>Bool->Nat->V->AO) (λ_=>PUnit)
  (λ_ _ _ _=>.bad 121)
  (λ_ _ _ _ _=>.bad 121)
  (λ_ _ _ _ _ _=>.bad 121)
  (λ_ _ _ _ _ _=>.bad 121)
  (λ_ _ _ _=>.bad 121)
  (λ_ _ _ _ _ _=>.bad 121)
  (λ_ _ _ _=>.bad 121)
  (λ_ _ _ _ _ _ _ _=>.bad 121)
  (λ_ _ _ _ _ _ _ _=>.bad 121)
  (λ_ _ _ _=>.bad 121)
  (λ_ _ _ _=>.bad 121)
  (λ_ _ _ _ _=>.bad 121)
  (λ_ _ _ _=>.bad 121)
  (λ_ _ _ _ _ _ _ _ _=>.bad 121)
  (λ_ _ _ _ _=>.bad 121)
  (λHK _ z k=>U6 HK z k)
  (λt u _ HK tt z k=>V2 HK tt z t u k)
  (λ_ _ _ _ _ _=>.bad 121)
  (λ_ _ _ _ _ _=>.bad 121)
  (λ_ _ _ _ _=>.bad 121)
  ⟨⟩ (λ_ _ _ _=>⟨⟩)
def U3:V->(Nat->V->Res)->Res :=
 @V.rec (λ_=>(Nat->V->Res)->Res) (λ_=>PUnit)
  (λ_=>.bad 123)
  (λ_ _=>.bad 123)
  (λ_ _ _=>.bad 123)
  (λ_ _ _=>.bad 123)
  (λ_=>.bad 123)
  (λ_ _ _=>.bad 123)
  (λ_=>.bad 123)
  (λ_ _ _ _ _=>.bad 123)
  (λ_ _ _ _ _=>.bad 123)
  (λ_=>.bad 123)
  (λ_=>.bad 123)
  (λ_ _=>.bad 123)
  (λ_=>.bad 123)
  (λ_ _ _ _ _ _=>.bad 123)
  (λ_ _=>.bad 123)
  (λ_=>.bad 123)
  (λt u _ k=>k t u)
  (λ_ _ _=>.bad 123)
  (λ_ _ _=>.bad 123)
  (λ_ _=>.bad 123)
  ⟨⟩ (λ_ _ _ _=>⟨⟩)
def xC(v:V):Xg:=λ_ k=>k v
def YL:Xg:=λ_ _=>.bad 2
def WL:Xs:=λ_ k=>k []
def WM(g:Xg)(r:Xs):Xs:=λtm k=>g tm λv=>r tm λl=>k (v::l)
def ptN:Dt:=λ_ t k=>k t
abbrev Bd:=T V->List V->(List V->Res)->Res
def Xv:Bd:=λ_ l k=>k l
def US(off n:Nat)(g:Xg)(r:Bd):Bd:=λtm l k=>g tm λv=>Nv v λc=>je c λm=>CX (Nat.beq m n) 28 (Zp l off c λl'=>r tm l' k)
abbrev Og:=T V->Nat->(Nat->Res)->Res
def XA:Og:=λ_ d k=>k d
def S2(g:Xg):Og:=λtm _ k=>g tm λv=>vN v k
abbrev Sg:=T V->T V->(T V->Res)->Res
def W8:Sg:=λ_ t k=>k t
def SP(i sz:Nat)(g:Xg)(r:Sg):Sg:=λtm t k=>g tm λv=>Nv v λc=>je c λm=>CX (Nat.beq m sz) 57 (qC c (Nat.mul i sz) t λt'=>r tm t' k)
def Wp(g:Xg):Pg:=λtm _ k=>g tm k
def Va(c x y:Xg):Pg:=λtm _ k=>c tm λv=>vB v λt=>@Bool.rec (λ_=>Xg->Xg->Xg) (λ_ y=>y) (λx _=>x) t x y tm k
def Ui(op:BinOp)(x y:Xg):Pg:=λtm _ k=>x tm λa=>y tm λb=>YQ a op b k
def nR(w:V->(Bool->Res)->Res)(neg:Bool)(x y:Xg):Pg:=λtm _ k=>x tm λa=>y tm λ_=>w a λt=>Qn neg t k
def Rb(neg:Bool)(x y:Xg):Pg:=λtm _ k=>x tm λa=>y tm λb=>vB a λp=>vB b λq=>Qn neg (VI p q) k
def Ra(neg:Bool)(x y:Xg):Pg:=λtm h k=>x tm λa=>y tm λb=>aED a h b λt=>Qn neg t k
def Uo(x:Xg):Pg:=λtm _ k=>x tm λv=>vB v λt=>bF (rN t) k
def Ug(kd:IntKind)(x:Xg):Pg:=λtm _ k=>x tm λv=>vI v λ_ n=>zR n kd k
def Uh(z:List V)(b:Bd):Pg:=λtm _ k=>b tm z λl=>k (.agg l)
def Uc(x:Xg):Pg:=λtm h k=>x tm λv=>Qb v (λo off=>OJ h o off k) λx=>LN h x k
def Ub(n:Nat)(x:Xg):Pg:=λtm h k=>x tm λv=>Qb v (λo off=>NX h o off n λl=>k (.agg l)) λx=>ph h x n λl=>k (.agg l)
def Up(x:Xg):Pg:=λtm _ k=>x tm λv=>YN v k
def SX(off:Nat)(x:Xg):Pg:=λtm _ k=>x tm λv=>Qb v (λo a=>fN (Nat.add a off) λa'=>k (.ptr o a')) λx=>NN x off k
def SW(agg:Bool)(off n:Nat)(x:Xg):Pg:=λtm _ k=>x tm λv=>vA v λl=>UM agg off n l k
def SV(sz:Nat)(x i:Xg):Pg:=λtm _ k=>x tm λv=>i tm λj=>vN j λj=>aJJ v sz j k
def Uf(len sz:Nat)(x i:Xg):Pg:=λtm _ k=>x tm λv=>i tm λj=>vN j λj=>vP v λo a=>CX (Nat.ble (Nat.succ j) len) 49 (fN (Nat.add a (Nat.mul j sz)) λa'=>k (.ptr o a'))
def Ud(x i:Xg):Pg:=λtm _ k=>x tm λv=>i tm λj=>vN j λj=>vS v λl n=>CX (Nat.ble (Nat.succ j) l) 50 (fN (Nat.mod (Nat.div n (Px j)) (nat_lit 256)) λc=>k (.int .u8 (.ofNat c)))
def Ue(agg:Bool)(len sz:Nat)(x i:Xg):Pg:=λtm _ k=>x tm λv=>i tm λj=>vN j λj=>vA v λl=>CX (Nat.ble (Nat.succ j) len) 51 (fN (Nat.mul j sz) λa=>UM agg a sz l k)
def Um(x:Xg)(lo hi:Og):Pg:=λtm _ k=>x tm λv=>vS v λl n=>lo tm (nat_lit 0) λa=>hi tm l λb=>CX (j3 (Nat.ble a b) (Nat.ble b l)) 52 (fN (Nat.sub b a) λl'=>fN (Nat.mod (Nat.div n (Px a)) (Px (Nat.sub b a))) λn'=>k (.str l' n'))
def Un(sz:Nat)(x:Xg)(lo hi:Og):Pg:=λtm _ k=>x tm λv=>U2 v λlen=>lo tm (nat_lit 0) λa=>hi tm len λb=>YP v sz a b k
def Uq(t:Nat)(x:Xg):Pg:=λtm _ k=>x tm λv=>k (.ifc t v)
def Ur(f:Q)(a b:Xs):Pg:=λtm _ k=>a tm λl=>b tm λm=>k (.fn f l m)
def K6:KK->T O->V->V->(Bool->Res)->Res :=
 @KK.rec (λ_=>T O->V->V->(Bool->Res)->Res)
  (λ_ x y k=>Nr x (nat_lit 35) λl n=>Nr y (nat_lit 32) λm j=>k (j3 (Nat.beq l m) (Nat.beq n j)))
  (λ_ x y k=>Nt x (nat_lit 35) λkd a=>Nt y (nat_lit 34) λHc b=>CX (Nat.beq (bo kd) (bo Hc)) 33 (k (om a b)))
  (λh x y k=>Ns x (nat_lit 35) λo a=>Ns y (nat_lit 34) λo' b=>QB h o a o' b k)
  (λfs h x y k=>gC (.st fs) h x y k)
abbrev Ke:=V->V->(Bool->Res)->Res
def findF:List (V×V)->Ke->V->(V->Res)->Res->Res :=
 @List.rec (V×V) (λ_=>Ke->V->(V->Res)->Res->Res) (λ_ _ _ kn=>kn)
  (λp _ ih e x k kn=>@Prod.rec V V (λ_=>(Ke->V->(V->Res)->Res->Res)->Ke->V->(V->Res)->Res->Res) (λy v ih e x k kn=>e x y λb=>IL b (k v) (ih e x k kn)) p ih e x k kn)
abbrev Ku:=List (V×V)->Nat->V->Res
abbrev Ut:=Ke->V->(V->V)->V->Nat->Ku->Res
def U4:List (V×V)->Ut :=
 @List.rec (V×V) (λ_=>Ut) (λ_ x f z i k=>k [(x,f z)] i z)
  (λp es ih e x f z i k=>@Prod.rec V V (λ_=>List (V×V)->Ut->Ut)
   (λy u es ih e x f z i k=>e x y λb=>@Bool.rec (λ_=>V->V->List (V×V)->Ut->Ut) (λy u _ ih e x f z i k=>fN (Nat.succ i) λi'=>ih e x f z i' λDC j w=>k ((y,u)::DC) j w) (λ_ u es _ _ x f _ i k=>k ((x,f u)::es) i u) b y u es ih e x f z i k) p es ih e x f z i k)
def Sf:KK->V->Res->Res:=@KK.rec (λ_=>V->Res->Res) (λ_ k=>k) (λ_ k=>k) (λ_ k=>k) (λfs x k=>iW (.st fs) x k)
def aC6(ok:Bool)(z:V)(k:V->Res):Res:=@Bool.rec (λ_=>V->AO) (λz k=>k z) (λz k=>k (.tup [z,.bool false])) ok z k
def SU(s:KK)(ok:Bool)(z:V)(m key:Xg):Pg:=λtm h k=>m tm λm=>key tm λx=>Sf s x (vM m (nat_lit 53) (λo=>GB o h λob=>Pv ob λes=>findF es (K6 s h) x (λv=>Zy ok v k) (aC6 ok z k)) (aC6 ok z k))
def Vb(x:Xg):Pg:=λtm _ k=>x tm λv=>vS v λl _=>k (.int .i64 (.ofNat l))
def Vd(x:Xg):Pg:=λtm _ k=>x tm λv=>U2 v λl=>k (.int .i64 (.ofNat l))
def Vc(x:Xg):Pg:=λtm h k=>x tm λv=>vM v (nat_lit 54) (λo=>GB o h λob=>Pv ob λes=>je es λn=>k (.int .i64 (.ofNat n))) (k (.int .i64 (.ofNat (nat_lit 0))))
def Us(x y:Xg):Pg:=λtm _ k=>x tm λa=>y tm λb=>vI a λka n=>vI b λ_ m=>IL (Jm m n) (k (.int ka n)) (k (.int ka m))
def SY(i:Nat)(x:Xg):Pg:=λtm _ k=>x tm λv=>vT v λl=>U8 l i k
def SS(ok:Bool)(t:Nat)(z:V)(x:Xg):Pg:=λtm _ k=>x tm λv=>WQ v ok t z k
def qA(b:PB):Pg:=λtm h k=>pK b tm h k
def aAl(ty n:Nat)(t:T V):Ag:=λ_ k=>k (.row n t [] (nat_lit 0) ty true) λq=>.ptr q (nat_lit 0)
def Vl(ty n:Nat)(x:Xg):Ag:=λtm k=>x tm λv=>Nv v λc=>je c λm=>CX (Nat.beq m n) 58 (qC c (nat_lit 0) .nil λt=>k (.row n t [] (nat_lit 0) ty true) λq=>.ptr q (nat_lit 0))
def VT(ty sz len:Nat)(t:T V)(g:Sg):Ag:=λtm k=>g tm t λt'=>fN (Nat.mul len sz) λn=>k (.row n t' [] (nat_lit 0) ty true) λq=>.sl q (nat_lit 0) len len
def ZL:Ag:=λ_ k=>k (.map []) λq=>.map q
def aIU(b:AB):Ag:=λtm k=>aK b tm k
def SG(n:Nat)(x y:Xg):Wg:=λtm h nx k=>x tm λp=>vP p λo off=>y tm λv=>Nv v λc=>je c λm=>CX (Nat.beq m n) 67 (Nq o off c h λh'=>k V.undef h' nx)
def SI(s:KK)(m key x:Xg):Wg:=λtm h nx k=>m tm λm=>key tm λkv=>x tm λv=>Sf s kv (vM m (nat_lit 68) (λo=>GB o h λob=>Pv ob λes=>U4 es (K6 s h) kv (λ_=>v) v (nat_lit 0) λDC _ _=>aJA ob DC λOH=>EU o OH h λh'=>k V.undef h' nx) (.bad 68))
def SJ(ty sz:Nat)(x y:Xg):Wg:=λtm h nx k=>x tm λa=>y tm λb=>aEr b sz h λm new=>CX (Nat.ble m (nat_lit 16777216)) 71 (WS a ty sz m new h nx k)
def SH(x:Xg):Wg:=λtm h nx k=>x tm λv=>vS v λl n=>Pj l n λcs=>qC cs (nat_lit 0) .nil λt=>EU nx (.ro l t) h λh'=>Hp nx λnx'=>k (.su nx (nat_lit 0) l (nat_lit 1)) h' nx'
def mi(b:WB):Wg:=λtm h nx k=>wK b tm h nx k
def zo(l:Q)(j:Jump)(st:Nat)(b:Bool)(ky:Kr)(s:S):Res :=
 @S.rec (λ_=>Res) (λh nx _=>GB l h λob=>n0 ob λ_ _ fn tm params BV body B8=>EU l (.loop (.mk st j fn tm params BV body B8)) h λh'=>ky (.bool b) h' nx) s
def vw:List (Nat×St)->Nat->St->St :=
 @List.rec (Nat×St) (λ_=>Nat->St->St) (λ_ kn=>kn)
  (λp _ ih id kn=>@Prod.rec Nat St (λ_=>(Nat->St->St)->Nat->St->St) (λi U ih id kn=>@Bool.rec (λ_=>St->(Nat->St->St)->Nat->St->St) (λ_ ih id kn=>ih id kn) (λU _ _ _=>U) (Nat.beq i id) U ih id kn) p ih id kn)
def Y9:Nat->Kr->St:=λ_ _ _ _=>.bad 94
def aJe(l:Q):Nat->Kr->St:=λid ky _ s=>zo l (.exit id) (nat_lit 2) false ky s
def Vf:Cx->Nat->St :=
 @Cx.rec (λ_=>Nat->St) λ_ _ rd env _ ky id=>vw env id (@Option.rec Q (λ_=>Nat->Kr->St) Y9 aJe rd id ky)
def UX:Cx->St :=
 @Cx.rec (λ_=>St) λ_ _ rd _ kr ky=>@Option.rec Q (λ_=>St->Kr->St) (λkr _=>kr) (λl _ ky _ s=>zo l .ret (nat_lit 2) false ky s) rd kr ky
def Zm:Jump->Cx->St->St:=@Jump.rec (λ_=>Cx->St->St) (λ_ U=>U) (λcx _=>UX cx) (λid cx _=>Vf cx id)
def fx(cx:Cx)(l:Q)(U:St)(tm:T V)(h:T O)(nx:Q)(ds:List Df):Res :=
 GB l h λob=>n0 ob λst pend fn tm' params BV body B8=>CX (rN (Nat.beq st (nat_lit 1))) 102 (EU l (.loop (.mk (nat_lit 3) pend fn tm' params BV body B8)) h λh'=>Zm pend cx U tm ⟨h',nx,ds⟩)
def sO:Cx->Cl:=@Cx.rec (λ_=>Cl) λcl _ _ _ _ _=>cl
def Wk(g:Xg)(params:List Q)(BV body:C):Op:=λcx U tm s =>
 g tm λfv=>@S.rec (λ_=>Res) (λh nx ds=>Nu fv (λg fs caps=>@Option.rec Q (λ_=>Res)
   (Hp nx λn1=>qU fs (.yld n1::caps) λargs=>EU nx (.dfd false) h λh1=>EU n1 (.loop (.mk (nat_lit 0) .none cx.f tm params BV body nx)) h1 λh2=>Hp n1 λn2 =>
     sO cx (.fn g [] []) args false h2 n2 λ_ h nx'=>fx cx n1 U tm h nx' (.coll nx::ds))
   (λl=>qU fs (.yld nx::caps) λargs=>GB l h λob=>n0 ob λ_ _ _ _ _ _ _ B8=>EU nx (.loop (.mk (nat_lit 0) .none cx.f tm params BV body B8)) h λh2=>Hp nx λn2 =>
     sO cx (.fn g [] []) args false h2 n2 λ_ h nx'=>fx cx nx U tm h nx' ds) cx.rd)
  (λ_=>.bad 95)) s
def Ws(p:Pg)(d:Dt):Op:=λ_ U tm s=>p tm s.h λv=>d v tm λtm'=>U tm' s
def Ww(a:Ag)(d:Dt):Op:=λ_ U tm s=>@S.rec (λ_=>Ag->Dt->St->T V->Res) (λh nx ds a d U tm=>a tm λob mk=>EU nx ob h λh'=>d (mk nx) tm λtm'=>Hp nx λnx'=>U tm' ⟨h',nx',ds⟩) s a d U tm
def Wr(w:Wg)(d:Dt):Op:=λ_ U tm s=>@S.rec (λ_=>Wg->Dt->St->T V->Res) (λh nx ds w d U tm=>w tm h nx λv h' nx'=>d v tm λtm'=>U tm' ⟨h',nx',ds⟩) s w d U tm
def aDm(g:Xg)(gs:Xs)(d:Dt):Op:=λcx U tm s=>g tm λfv=>gs tm λvs=>@S.rec (λ_=>Cl->V->List V->Dt->St->T V->Res) (λh nx ds cl fv vs d U tm=>cl fv vs false h nx λv h' nx'=>d v tm λtm'=>U tm' ⟨h',nx',ds⟩) s (sO cx) fv vs d U tm
def wg:List (Nat×Q)->Nat->(Q->Res)->Res :=
 @List.rec (Nat×Q) (λ_=>Nat->(Q->Res)->Res) (λ_ _=>.bad 122) (λp _ ih t k=>@Prod.rec Nat Q (λ_=>(Nat->(Q->Res)->Res)->Nat->(Q->Res)->Res) (λu f ih t k=>IL (Nat.beq u t) (k f) (ih t k)) p ih t k)
def Zs(ms:List (Nat×Q))(g:Xg)(gs:Xs)(d:Dt):Op:=λcx U tm s=>g tm λv=>gs tm λvs=>U3 v λt u=>wg ms t λf=>@S.rec (λ_=>Res) (λh nx ds=>sO cx (.fn f [] []) (u::vs) false h nx λv h' nx'=>d v tm λtm'=>U tm' ⟨h',nx',ds⟩) s
def V7(g:Xg)(gs:Xs)(d:Dt):Op:=λcx U tm s=>(match cx.rd with
 |some _=>.bad 89
 |none=>g tm λfv=>gs tm λvs=>(match fv with
  |.fn g fs caps=>sL vs caps λCE=>sL fs CE λCE=>d V.undef tm λtm'=>@S.rec (λ_=>Res) (λh nx ds=>U tm' ⟨h,nx,.call g CE::ds⟩) s
  |_=>.bad 90))
def V6(d:Dt):Op:=λcx U tm s=>(match cx.rd with
 |some _=>.bad 91
 |none=>d .nili tm λtm'=>U tm' s)
def S0(g:Xg)(w:Bool)(o:Op)(d:Dt):Op:=λcx U tm s=>g tm λv=>xQ v w (o cx U) (λtm s=>d V.undef tm λtm'=>U tm' s) tm s
def pT(p:Pg)(g:Xg):Op:=λ_ U tm s=>p tm s.h λv=>g tm λu=>CX (Lm v u) 93 (U tm s)
def cr(g:Xg)(w:Bool)(o:Op):Op:=λcx U tm s=>g tm λv=>xQ v w (o cx U) U tm s
def Wu:Op:=λ_ U=>U
def A6(f g:Op):Op:=λcx U tm s=>f cx (g cx U) tm s
def opC(x:Xg)(f g:Op):Op:=λcx U tm s=>x tm λv=>VX v (f cx U) (g cx U) tm s
def Wv(id:Nat)(o:Op):Op:=λcx U=>@Cx.rec (λ_=>Nat->Op->St->St) (λcl f rd env kr ky id o U=>o ⟨cl,f,rd,(id,U)::env,kr,ky⟩ U) cx id o U
def opL(o:Op):Op:=λcx _=>@Nat.rec (λ_=>St) dZ (λ_ again=>o cx again) (nat_lit 1000000)
def opE(id:Nat):Op:=λcx _=>Vf cx id
def opR:Op:=λcx _=>UX cx
def mK:Op:=λ_ _ _ _=>.bad 210
def Pr:QN Q5->((T6 V->AO)->D)->D:=@QN.rec Q5 (λ_=>((T6 V->AO)->D)->D) (λk=>k UQ) (λ_ _=>⟨mK⟩) (λ_ _=>⟨mK⟩) (λ_ _=>⟨mK⟩) (λ_ _=>⟨mK⟩)
def OG:QN Q5->(Iq->D)->D:=@QN.rec Q5 (λ_=>(Iq->D)->D) (λk=>k S8) (λ_ _=>⟨mK⟩) (λ_ _=>⟨mK⟩) (λ_ _=>⟨mK⟩) (λ_ _=>⟨mK⟩)
def Pq:QN Q6->((T7 V->AO)->D)->D:=@QN.rec Q6 (λ_=>((T7 V->AO)->D)->D) (λk=>k UP) (λq k=>Pr q λg=>k (YK g)) (λq k=>Pr q λg=>k (YJ g)) (λq k=>Pr q λg=>k (YI g)) (λq k=>Pr q λg=>k (YH g))
def OE:QN Q6->(Ip->D)->D:=@QN.rec Q6 (λ_=>(Ip->D)->D) (λk=>k S7) (λq k=>OG q λg=>k (Y4 g)) (λq k=>OG q λg=>k (Y3 g)) (λq k=>OG q λg=>k (Y2 g)) (λq k=>OG q λg=>k (Y1 g))
def Pp:QN Q7->((T8 V->AO)->D)->D:=@QN.rec Q7 (λ_=>((T8 V->AO)->D)->D) (λk=>k UO) (λq k=>Pq q λg=>k (YG g)) (λq k=>Pq q λg=>k (YF g)) (λq k=>Pq q λg=>k (YE g)) (λq k=>Pq q λg=>k (YD g))
def OD:QN Q7->(Io->D)->D:=@QN.rec Q7 (λ_=>(Io->D)->D) (λk=>k S6) (λq k=>OE q λg=>k (Y0 g)) (λq k=>OE q λg=>k (YZ g)) (λq k=>OE q λg=>k (YY g)) (λq k=>OE q λg=>k (YX g))
def Po:QN Q8->((T9 V->AO)->D)->D:=@QN.rec Q8 (λ_=>((T9 V->AO)->D)->D) (λk=>k UN) (λq k=>Pp q λg=>k (YC g)) (λq k=>Pp q λg=>k (YB g)) (λq k=>Pp q λg=>k (YA g)) (λq k=>Pp q λg=>k (Xz g))
def OC:QN Q8->(Im->D)->D:=@QN.rec Q8 (λ_=>(Im->D)->D) (λk=>k S5) (λq k=>OD q λg=>k (YU g)) (λq k=>OD q λg=>k (YT g)) (λq k=>OD q λg=>k (YS g)) (λq k=>OD q λg=>k (YR g))
def zU:QN Q9->((N5 V (T9 V)->AO)->D)->D:=@QN.rec Q9 (λ_=>((N5 V (T9 V)->AO)->D)->D) (λk=>k VS) (λq k=>Po q λg=>k (aJP g)) (λq k=>Po q λg=>k (aJQ g)) (λq k=>Po q λg=>k (aJR g)) (λq k=>Po q λg=>k (aJS g))
def UZ:QN Q9->(QF->D)->D:=@QN.rec Q9 (λ_=>(QF->D)->D) (λk=>k Ul) (λq k=>OC q λg=>k (aJC g)) (λq k=>OC q λg=>k (aJD g)) (λq k=>OC q λg=>k (aJE g)) (λq k=>OC q λg=>k (aJF g))
def cX:X->(Xg->D)->D:=@X.rec (λ_=>(Xg->D)->D) (λq k=>zU q λg=>k g) (λv k=>k (xC v)) (λk=>k YL)
def NS:List X->(Xs->D)->D:=@List.rec X (λ_=>(Xs->D)->D) (λk=>k WL) (λx _ ih k=>cX x λg=>ih λr=>k (WM g r))
def Yk:Option Q->(Dt->D)->D:=@Option.rec Q (λ_=>(Dt->D)->D) (λk=>k ptN) (λq k=>UZ q λp=>k p)
def Ph:Option X->(Og->D)->D:=@Option.rec X (λ_=>(Og->D)->D) (λk=>k XA) (λx k=>cX x λg=>k (S2 g))
def Xb:List (Nat×Nat×X)->(Bd->D)->D:=@List.rec (Nat×Nat×X) (λ_=>(Bd->D)->D) (λk=>k Xv)
 (λp _ ih k=>@Prod.rec Nat (Nat×X) (λ_=>D) (λoff nx=>@Prod.rec Nat X (λ_=>D) (λn x=>cX x λg=>ih λr=>k (US off n g r)) nx) p)
def X7(sz:Nat):List (Nat×X)->(Sg->D)->D:=@List.rec (Nat×X) (λ_=>(Sg->D)->D) (λk=>k W8)
 (λp _ ih k=>@Prod.rec Nat X (λ_=>D) (λi x=>cX x λg=>ih λr=>k (SP i sz g r)) p)
def cP:PB->(Pg->D)->D :=
 @PB.rec (λ_=>(Pg->D)->D)
  (mv:=λx k=>cX x λg=>k (Wp g))
  (pick:=λc x y k=>cX c λc=>cX x λx=>cX y λy=>k (Va c x y))
  (bin:=λop x y k=>cX x λx=>cX y λy=>k (Ui op x y))
  (eq:=λneg m x y k=>cX x λx=>cX y λy=>k (@EqM.rec (λ_=>Pg) (Ra neg x y) (Rb neg x y) (nR yo neg x y) (nR yn neg x y) (nR yk neg x y) (nR ym neg x y) m))
  (not:=λx k=>cX x λg=>k (Uo g))
  (neg:=λx k=>k (qA (.neg x)))
  (cvi:=λkd x k=>cX x λg=>k (Ug kd g))
  (cvs:=λx k=>k (qA (.cvs x)))
  (cis:=λx k=>k (qA (.cis x)))
  (ctu:=λx k=>k (qA (.ctu x)))
  (cfu:=λty n x k=>k (qA (.cfu ty n x)))
  (bld:=λz ps k=>Xb ps λb=>k (Uh z b))
  (ld1:=λx k=>cX x λg=>k (Uc g))
  (ldn:=λn x k=>cX x λg=>k (Ub n g))
  (nck:=λx k=>cX x λg=>k (Up g))
  (fa:=λoff x k=>cX x λg=>k (SX off g))
  (fd:=λagg off n x k=>cX x λg=>k (SW agg off n g))
  (ia:=λsz x i k=>cX x λx=>cX i λi=>k (SV sz x i))
  (iaa:=λlen sz x i k=>cX x λx=>cX i λi=>k (Uf len sz x i))
  (ixs:=λx i k=>cX x λx=>cX i λi=>k (Ud x i))
  (ixa:=λagg len sz x i k=>cX x λx=>cX i λi=>k (Ue agg len sz x i))
  (slS:=λx lo hi k=>cX x λx=>Ph lo λlo=>Ph hi λhi=>k (Um x lo hi))
  (slL:=λsz x lo hi mx k=>@Option.rec X (λ_=>D) (cX x λx=>Ph lo λlo=>Ph hi λhi=>k (Un sz x lo hi)) (λm=>k (qA (.slL sz x lo hi (some m)))) mx)
  (mki:=λt x k=>cX x λg=>k (Uq t g))
  (mkf:=λf fs caps k=>NS fs λa=>NS caps λb=>k (Ur f a b))
  (lk:=λs ok z m key k=>cX m λm=>cX key λkey=>k (SU s ok z m key))
  (lenS:=λx k=>cX x λg=>k (Vb g))
  (lenL:=λx k=>cX x λg=>k (Vd g))
  (lenM:=λx k=>cX x λg=>k (Vc g))
  (sd:=λx k=>k (qA (.sd x)))
  (max:=λx y k=>cX x λx=>cX y λy=>k (Us x y))
  (ex:=λi x k=>cX x λg=>k (SY i g))
  (ta:=λok t z x k=>cX x λg=>k (SS ok t z g))
  (bad:=λk=>k (qA .bad))
def cA:AB->(Ag->D)->D :=
 @AB.rec (λ_=>(Ag->D)->D)
  (al:=λty n t k=>k (aAl ty n t))
  (bx:=λty n x k=>cX x λg=>k (Vl ty n g))
  (bsl:=λty sz len t ps k=>X7 sz ps λg=>k (VT ty sz len t g))
  (mkm:=λk=>k ZL)
  (mks:=λty sz z len cap k=>k (aIU (.mks ty sz z len cap)))
def cW:WB->(Wg->D)->D :=
 @WB.rec (λ_=>(Wg->D)->D)
  (st:=λn x y k=>cX x λx=>cX y λy=>k (SG n x y))
  (mu:=λs m x v k=>cX m λm=>cX x λx=>cX v λv=>k (SI s m x v))
  (me:=λs z m x k=>k (mi (.me s z m x)))
  (es:=λm s v k=>k (mi (.es m s v)))
  (ap:=λty sz x y k=>cX x λx=>cX y λy=>k (SJ ty sz x y))
  (cp:=λsz x y k=>k (mi (.cp sz x y)))
  (sb:=λx k=>cX x λg=>k (SH g))
  (us:=λty x n k=>k (mi (.us ty x n)))
def X9:OB->Dt->(Op->D)->D :=
 @OB.rec (λ_=>Dt->(Op->D)->D)
  (p:=λb d k=>cP b λp=>k (Ws p d))
  (a:=λb d k=>cA b λa=>k (Ww a d))
  (w:=λb d k=>cW b λw=>k (Wr w d))
  (call:=λx args d k=>cX x λg=>NS args λgs=>k (aDm g gs d))
  (inv:=λms x args d k=>cX x λg=>NS args λgs=>k (Zs ms g gs d))
  (dfr:=λx args d k=>cX x λg=>NS args λgs=>k (V7 g gs d))
  (rcv:=λd k=>k (V6 d))
def Xa:CO->(Op->D)->D :=
 @CO.rec (λ_=>(Op->D)->D) λdst g b k=>Yk dst λd=>X9 b d λo=>@Option.rec (Q×Bool) (λ_=>D) (k o) (λqw=>@Prod.rec Q Bool (λ_=>D) (λq w=>zU q λg=>k (S0 g w o d)) qw) g
def X8:PS->(Op->D)->D :=
 @PS.rec (λ_=>(Op->D)->D) (λo k=>Xa o k)
  (λg p q k=>cP p λp=>zU q λr=>@Option.rec (Q×Bool) (λ_=>D) (k (pT p r)) (λqw=>@Prod.rec Q Bool (λ_=>D) (λq w=>zU q λg=>k (cr g w (pT p r))) qw) g)
def cL:List PS->(Op->D)->D :=
 @List.rec PS (λ_=>(Op->D)->D) (λk=>k Wu) (λp _ ih k=>X8 p λo=>ih λr=>k (A6 o r))
def cC:C->(Op->D)->D :=
 @C.rec (λ_=>(Op->D)->D)
  (skip:=λk=>k Wu)
  (reg:=λl k=>cL l k)
  (seq:=λ_ _ Hv Hu k=>Hv λa=>Hu λb=>k (A6 a b))
  (cond:=λx _ _ Hv Hu k=>cX x λg=>Hv λa=>Hu λb=>k (opC g a b))
  (block:=λid _ ih k=>ih λo=>k (Wv id o))
  (loop:=λ_ ih k=>ih λo=>k (opL o))
  (rf:=λx params BV body _ _ k=>cX x λg=>k (Wk g params BV body))
  (exit:=λid k=>k (opE id))
  (scope:=λ_ ih k=>ih k)
  (ret:=λk=>k opR)
  (bad:=λk=>k mK)
def Jl(c:C):D:=cC c D.mk
def kj:D->Op:=@D.rec (λ_=>Op) λo=>o
def N6:List RV->T V->T O->(List V->Res)->Res :=
 @List.rec RV (λ_=>T V->T O->(List V->Res)->Res) (λ_ _ k=>k [])
  (λr _ ih tm h k=>@RV.rec (λ_=>(T V->T O->(List V->Res)->Res)->T V->T O->(List V->Res)->Res)
   (λq ih tm h k=>Ll q tm λv=>ih tm h λl=>k (v::l))
   (λagg n q ih tm h k=>Ll q tm λp=>vP p λo off=>@Bool.rec (λ_=>Res) (OJ h o off λv=>ih tm h λl'=>k (v::l')) (NX h o off n λl=>ih tm h λl'=>k (.agg l::l')) agg) r ih tm h k)
def Uj:List V->AO :=
 @List.rec V (λ_=>AO) (λk=>k (.tup [])) (λv r _ k=>@List.rec V (λ_=>V->AO) (λv k=>k v) (λu r _ v k=>k (.tup (v::u::r))) r v k)
abbrev Kn:=T O->Q->Res
def Vx(q:Q)(ih:Kn)(h:T O)(nx:Q):Res:=gO q h λob=>(match ob with
 |.dfd false=>pO (.dfd true) q h λh'=>ih h' nx
 |_=>.bad 97)
def Rk:List Df->Cl->List RV->Kr->T V->Kn :=
 @List.rec Df (λ_=>Cl->List RV->Kr->T V->Kn) (λ_ rs A5 tm h nx=>N6 rs tm h λvs=>Uj vs λv=>A5 v h nx)
  (λd _ ih cl rs A5 tm h nx=>@Df.rec (λ_=>Cl->Kn->T O->Q->Res)
   (λg args cl ih h nx=>cl (.fn g [] []) args true h nx λ_ h' nx'=>ih h' nx')
   (λq _ ih h nx=>Vx q ih h nx) d cl (ih cl rs A5 tm) h nx)
def ra(cl:Cl)(rs:List RV)(A5:Kr):St:=λtm s=>@S.rec (λ_=>Cl->List RV->Kr->T V->Res) (λh nx ds cl rs A5 tm=>Rk ds cl rs A5 tm h nx) s cl rs A5 tm
def yV:List V->Nat->T V->(T V->Res)->Res :=
 @List.rec V (λ_=>Nat->T V->(T V->Res)->Res) (λ_ t k=>k t) (λv _ ih i t k=>Mj (qn i) v t λt'=>ih (Nat.succ i) t' k)
def ax(o:Op)(cl:Cl)(f:Q)(tm:T V)(h:T O)(nx:Q)(kr:St):Res:=o ⟨cl,f,none,[],kr,Zz⟩ kr tm ⟨h,nx,[]⟩
def FU:GT->Nat->Nat->AO :=
 @GT.rec (λ_=>Nat->Nat->AO) (λv _ _ k=>k v) (λl n v l' n' k=>CX (j3 (Nat.beq l l') (Nat.beq n n')) 131 (k v))
  (λp _ _ Hv Hu l' n' k=>@Bool.rec (λ_=>(Nat->Nat->AO)->(Nat->Nat->AO)->Nat->Nat->AO) (λ_ b l n k=>b l n k) (λa _ l n k=>a l n k) (Nat.ble n' p) Hv Hu l' n' k) (λ_ _ _ _ _ _=>.bad 133)
def YO:V->GT->AO :=
 @V.rec (λ_=>GT->AO) (λ_=>PUnit)
  (λg k=>FU g (nat_lit 0) (nat_lit 0) k)
  (λ_ g k=>FU g (nat_lit 0) (nat_lit 0) k)
  (λ_ _ g k=>FU g (nat_lit 0) (nat_lit 0) k)
  (λl n g k=>FU g l n k)
  (λg k=>FU g (nat_lit 0) (nat_lit 0) k)
  (λ_ _ g k=>FU g (nat_lit 0) (nat_lit 0) k)
  (λg k=>FU g (nat_lit 0) (nat_lit 0) k)
  (λ_ _ _ _ g k=>FU g (nat_lit 0) (nat_lit 0) k)
  (λ_ _ _ _ g k=>FU g (nat_lit 0) (nat_lit 0) k)
  (λg k=>FU g (nat_lit 0) (nat_lit 0) k)
  (λg k=>FU g (nat_lit 0) (nat_lit 0) k)
  (λ_ g k=>FU g (nat_lit 0) (nat_lit 0) k)
  (λg k=>FU g (nat_lit 0) (nat_lit 0) k)
  (λ_ _ _ _ _ g k=>FU g (nat_lit 0) (nat_lit 0) k)
  (λ_ g k=>FU g (nat_lit 0) (nat_lit 0) k)
  (λg k=>FU g (nat_lit 0) (nat_lit 0) k)
  (λ_ _ _ g k=>FU g (nat_lit 0) (nat_lit 0) k)
  (λvs _ g k=>QC g vs k)
  (λ_ _ g k=>FU g (nat_lit 0) (nat_lit 0) k)
  (λ_ g k=>FU g (nat_lit 0) (nat_lit 0) k)
  ⟨⟩ (λ_ _ _ _=>⟨⟩)
def Uv(g:GT)(args:List V)(k:V->Res):Res :=
 @List.rec V (λ_=>GT->AO) (λg k=>FU g (nat_lit 0) (nat_lit 0) k) (λx l _ g k=>@List.rec V (λ_=>GT->AO) (λg k=>YO x g k) (λ_ _ _ _ _=>.bad 134) l g k) args g k
def Pd:CF->Cl->Q->List V->Bool->T O->Q->Kr->Res :=
 @CF.rec (λ_=>Cl->Q->List V->Bool->T O->Q->Kr->Res) (λ_ _ _ _ _ _ _=>.bad 83)
  (λbody rs cl f args _ h nx A5=>yV args (nat_lit 0) .nil λtm=>ax (kj (Jl body)) cl f tm h nx (ra cl rs A5))
  (λn _ _ args dk h nx A5=>@Bool.rec (λ_=>Res) (az n args λv=>A5 v h nx) (.bad 78) dk)
  (λg _ _ args dk h nx A5=>@Bool.rec (λ_=>Res) (Uv g args λv=>A5 v h nx) (.bad 78) dk)
  (λ_ _ _ _ _ _ _ _ _ _=>.bad 135)
def U0:List Q->List V->T V->(T V->Res)->Res :=
 @List.rec Q (λ_=>List V->T V->(T V->Res)->Res) (λvs t k=>@List.rec V (λ_=>T V->(T V->Res)->Res) (λt k=>k t) (λ_ _ _ _ _=>.bad 82) vs t k)
  (λq _ ih vs t k=>@List.rec V (λ_=>Q->(List V->T V->(T V->Res)->Res)->T V->(T V->Res)->Res) (λ_ _ _ _=>.bad 82) (λv vs _ q ih t k=>Mj q v t λt'=>ih vs t' k) vs q ih t k)
def aI1(cl:Cl)(l fn:Q)(body:C)(A5:Kr):St:=λtm s=>@S.rec (λ_=>Res) (λh nx ds=>GB l h λob=>n0 ob λst pend FZ tm' params BV GQ B8=>CX (Nat.beq st (nat_lit 0)) 104 (EU l (.loop (.mk (nat_lit 1) pend FZ tm' params BV GQ B8)) h λh' =>
 kj (Jl body) ⟨cl,fn,some l,[],dZ,A5⟩ (λ_ s=>zo l .none (nat_lit 0) true A5 s) tm ⟨h',nx,ds⟩)) s
def qy(cl:Cl)(l:Q)(args:List V)(h:T O)(nx:Q)(A5:Kr):Res :=
 GB l h λob=>n0 ob λ_ _ fn tm params BV body _=>U0 params args tm λtm' =>
  kj (Jl BV) ⟨cl,fn,some l,[],dZ,A5⟩ (aI1 cl l fn body A5) tm' ⟨h,nx,[]⟩
def Yu(fe:Q->CF)(cl:Cl):Cl:=λfv args dk h nx A5 =>
 Nu fv (λf fs caps=>yw fs args caps λl=>Pd (fe f) cl f l dk h nx A5)
  (λl=>@Bool.rec (λ_=>Cl->Q->List V->T O->Q->Kr->Res) qy (λ_ _ _ _ _ _=>.bad 202) dk cl l args h nx A5)
def fh(fe:Q->CF)(n:Nat):Cl:=@Nat.rec (λ_=>Cl) (λ_ _ _ _ _ _=>.bad 203) (λ_ cl=>Yu fe cl) n
def YW(fe:Q->CF)(n:Nat)(f:Q)(args:List V)(h0:T O)(nx:Q):Res:=fh fe n (.fn f [] []) args false h0 nx λv h _=>.ok (fin v h)
def runF(fe:Q->CF)(n:Nat)(f:Q)(args:List V)(nx:Q):Res:=YW fe n f args .nil nx
end Go.CM
end
