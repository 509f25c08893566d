import Derived.Test.YtdkkaldimefljaaGreatDoorF00
import Derived.Test.YtdkkaldimefljaaGreatDoorC01
set_option linter.all false
noncomputable section
namespace Go.CM
section
theorem ko(q:QR)(t:TQ V)(k:V->AA):Q0 q t k=k (t.get Dft.z q):=rfl
theorem ja(q:QR)(v:V)(t:TQ V)(k:TQ V->AA):Qt q v t k=k (TQ.put Dft.z v q t):=rfl
theorem kq(q:QN QR)(t:N5 V (TQ V))(k:V->AA):QZ q t k=k (N5.gt (TQ.get Dft.z) t q):=by
 obtain⟨u,a,b,c,d⟩:=t;cases q with
 |e=>rfl
 |a q=>exact ko q a k
 |b q=>exact ko q b k
 |c q=>exact ko q c k
 |d q=>exact ko q d k
theorem jb(q:QN QR)(v:V)(t:N5 V (TQ V))(k:N5 V (TQ V)->AA):Qs q v t k=k (N5.pt (TQ.put Dft.z v) v q t):=by
 obtain⟨u,a,b,c,d⟩:=t;cases q with
 |e=>rfl
 |a q=>exact ja q v a λx=>k ⟨u,x,b,c,d⟩
 |b q=>exact ja q v b λx=>k ⟨u,a,x,c,d⟩
 |c q=>exact ja q v c λx=>k ⟨u,a,b,x,d⟩
 |d q=>exact ja q v d λx=>k ⟨u,a,b,c,x⟩
theorem ld(q:QN Q1)(t:N5 V (T1 V))(k:V->AA):QY q t k=k (N5.gt (g1 (α:=V)) t q):=by
 obtain⟨u,a,b,c,d⟩:=t;cases q with
 |e=>rfl
 |a q=>exact kq q a k
 |b q=>exact kq q b k
 |c q=>exact kq q c k
 |d q=>exact kq q d k
theorem jd(q:QN Q1)(v:V)(t:N5 V (T1 V))(k:N5 V (T1 V)->AA):Qr q v t k=k (N5.pt (p1 v) v q t):=by
 obtain⟨u,a,b,c,d⟩:=t;cases q with
 |e=>rfl
 |a q=>exact jb q v a λx=>k ⟨u,x,b,c,d⟩
 |b q=>exact jb q v b λx=>k ⟨u,a,x,c,d⟩
 |c q=>exact jb q v c λx=>k ⟨u,a,b,x,d⟩
 |d q=>exact jb q v d λx=>k ⟨u,a,b,c,x⟩
theorem lf(q:QN Q2)(t:N5 V (T2 V))(k:V->AA):QX q t k=k (N5.gt (g2 (α:=V)) t q):=by
 obtain⟨u,a,b,c,d⟩:=t;cases q with
 |e=>rfl
 |a q=>exact ld q a k
 |b q=>exact ld q b k
 |c q=>exact ld q c k
 |d q=>exact ld q d k
theorem je(q:QN Q2)(v:V)(t:N5 V (T2 V))(k:N5 V (T2 V)->AA):Qq q v t k=k (N5.pt (p2 v) v q t):=by
 obtain⟨u,a,b,c,d⟩:=t;cases q with
 |e=>rfl
 |a q=>exact jd q v a λx=>k ⟨u,x,b,c,d⟩
 |b q=>exact jd q v b λx=>k ⟨u,a,x,c,d⟩
 |c q=>exact jd q v c λx=>k ⟨u,a,b,x,d⟩
 |d q=>exact jd q v d λx=>k ⟨u,a,b,c,x⟩
theorem lg(q:QN Q3)(t:N5 V (T3 V))(k:V->AA):QW q t k=k (N5.gt (g3 (α:=V)) t q):=by
 obtain⟨u,a,b,c,d⟩:=t;cases q with
 |e=>rfl
 |a q=>exact lf q a k
 |b q=>exact lf q b k
 |c q=>exact lf q c k
 |d q=>exact lf q d k
theorem jf(q:QN Q3)(v:V)(t:N5 V (T3 V))(k:N5 V (T3 V)->AA):Qp q v t k=k (N5.pt (p3 v) v q t):=by
 obtain⟨u,a,b,c,d⟩:=t;cases q with
 |e=>rfl
 |a q=>exact je q v a λx=>k ⟨u,x,b,c,d⟩
 |b q=>exact je q v b λx=>k ⟨u,a,x,c,d⟩
 |c q=>exact je q v c λx=>k ⟨u,a,b,x,d⟩
 |d q=>exact je q v d λx=>k ⟨u,a,b,c,x⟩
theorem lh(q:QN Q4)(t:N5 V (T4 V))(k:V->AA):QV q t k=k (N5.gt (g4 (α:=V)) t q):=by
 obtain⟨u,a,b,c,d⟩:=t;cases q with
 |e=>rfl
 |a q=>exact lg q a k
 |b q=>exact lg q b k
 |c q=>exact lg q c k
 |d q=>exact lg q d k
theorem jg(q:QN Q4)(v:V)(t:N5 V (T4 V))(k:N5 V (T4 V)->AA):Qo q v t k=k (N5.pt (p4 v) v q t):=by
 obtain⟨u,a,b,c,d⟩:=t;cases q with
 |e=>rfl
 |a q=>exact jf q v a λx=>k ⟨u,x,b,c,d⟩
 |b q=>exact jf q v b λx=>k ⟨u,a,x,c,d⟩
 |c q=>exact jf q v c λx=>k ⟨u,a,b,x,d⟩
 |d q=>exact jf q v d λx=>k ⟨u,a,b,c,x⟩
theorem lj(q:QN Q5)(t:N5 V (T5 V))(k:V->AA):QU q t k=k (N5.gt (g5 (α:=V)) t q):=by
 obtain⟨u,a,b,c,d⟩:=t;cases q with
 |e=>rfl
 |a q=>exact lh q a k
 |b q=>exact lh q b k
 |c q=>exact lh q c k
 |d q=>exact lh q d k
theorem jh(q:QN Q5)(v:V)(t:N5 V (T5 V))(k:N5 V (T5 V)->AA):Qn q v t k=k (N5.pt (p5 v) v q t):=by
 obtain⟨u,a,b,c,d⟩:=t;cases q with
 |e=>rfl
 |a q=>exact jg q v a λx=>k ⟨u,x,b,c,d⟩
 |b q=>exact jg q v b λx=>k ⟨u,a,x,c,d⟩
 |c q=>exact jg q v c λx=>k ⟨u,a,b,x,d⟩
 |d q=>exact jg q v d λx=>k ⟨u,a,b,c,x⟩
theorem lr(q:QN Q6)(t:N5 V (T6 V))(k:V->AA):QT q t k=k (N5.gt (g6 (α:=V)) t q):=by
 obtain⟨u,a,b,c,d⟩:=t;cases q with
 |e=>rfl
 |a q=>exact lj q a k
 |b q=>exact lj q b k
 |c q=>exact lj q c k
 |d q=>exact lj q d k
theorem ji(q:QN Q6)(v:V)(t:N5 V (T6 V))(k:N5 V (T6 V)->AA):Qm q v t k=k (N5.pt (p6 v) v q t):=by
 obtain⟨u,a,b,c,d⟩:=t;cases q with
 |e=>rfl
 |a q=>exact jh q v a λx=>k ⟨u,x,b,c,d⟩
 |b q=>exact jh q v b λx=>k ⟨u,a,x,c,d⟩
 |c q=>exact jh q v c λx=>k ⟨u,a,b,x,d⟩
 |d q=>exact jh q v d λx=>k ⟨u,a,b,c,x⟩
theorem lu(q:QN Q7)(t:N5 V (T7 V))(k:V->AA):QS q t k=k (N5.gt (g7 (α:=V)) t q):=by
 obtain⟨u,a,b,c,d⟩:=t;cases q with
 |e=>rfl
 |a q=>exact lr q a k
 |b q=>exact lr q b k
 |c q=>exact lr q c k
 |d q=>exact lr q d k
theorem jj(q:QN Q7)(v:V)(t:N5 V (T7 V))(k:N5 V (T7 V)->AA):Ql q v t k=k (N5.pt (p7 v) v q t):=by
 obtain⟨u,a,b,c,d⟩:=t;cases q with
 |e=>rfl
 |a q=>exact ji q v a λx=>k ⟨u,x,b,c,d⟩
 |b q=>exact ji q v b λx=>k ⟨u,a,x,c,d⟩
 |c q=>exact ji q v c λx=>k ⟨u,a,b,x,d⟩
 |d q=>exact ji q v d λx=>k ⟨u,a,b,c,x⟩
theorem lx(q:QN Q8)(t:N5 V (T8 V))(k:V->AA):QQ q t k=k (N5.gt (g8 (α:=V)) t q):=by
 obtain⟨u,a,b,c,d⟩:=t;cases q with
 |e=>rfl
 |a q=>exact lu q a k
 |b q=>exact lu q b k
 |c q=>exact lu q c k
 |d q=>exact lu q d k
theorem jk(q:QN Q8)(v:V)(t:N5 V (T8 V))(k:N5 V (T8 V)->AA):Qk q v t k=k (N5.pt (p8 v) v q t):=by
 obtain⟨u,a,b,c,d⟩:=t;cases q with
 |e=>rfl
 |a q=>exact jj q v a λx=>k ⟨u,x,b,c,d⟩
 |b q=>exact jj q v b λx=>k ⟨u,a,x,c,d⟩
 |c q=>exact jj q v c λx=>k ⟨u,a,b,x,d⟩
 |d q=>exact jj q v d λx=>k ⟨u,a,b,c,x⟩
theorem aHu(q:QN Q9)(t:N5 V (T9 V))(k:V->AA):aOI q t k=k (N5.gt (g9 (α:=V)) t q):=by
 obtain⟨u,a,b,c,d⟩:=t;cases q with
 |e=>rfl
 |a q=>exact lx q a k
 |b q=>exact lx q b k
 |c q=>exact lx q c k
 |d q=>exact lx q d k
theorem aHg(q:QN Q9)(v:V)(t:N5 V (T9 V))(k:N5 V (T9 V)->AA):aOA q v t k=k (N5.pt (p9 v) v q t):=by
 obtain⟨u,a,b,c,d⟩:=t;cases q with
 |e=>rfl
 |a q=>exact jk q v a λx=>k ⟨u,x,b,c,d⟩
 |b q=>exact jk q v b λx=>k ⟨u,a,x,c,d⟩
 |c q=>exact jk q v c λx=>k ⟨u,a,b,x,d⟩
 |d q=>exact jk q v d λx=>k ⟨u,a,b,c,x⟩
theorem ly(q:Q)(t:T V)(k:V->AA):MU q t k=gV q t k:=aHu q t k
theorem xz(q:Q)(v:V)(t:T V)(k:T V->AA):Nc q v t k=pV v q t k:=aHg q v t k
theorem jv(q:QR)(t:TQ O)(k:O->AA):Qi q t k=k (t.get Dft.z q):=rfl
theorem ik(q:QR)(v:O)(t:TQ O)(k:TQ O->AA):RD q v t k=k (TQ.put Dft.z v q t):=rfl
theorem jx(q:QN QR)(t:N5 O (TQ O))(k:O->AA):Qh q t k=k (N5.gt (TQ.get Dft.z) t q):=by
 obtain⟨u,a,b,c,d⟩:=t;cases q with
 |e=>rfl
 |a q=>exact jv q a k
 |b q=>exact jv q b k
 |c q=>exact jv q c k
 |d q=>exact jv q d k
theorem il(q:QN QR)(v:O)(t:N5 O (TQ O))(k:N5 O (TQ O)->AA):RC q v t k=k (N5.pt (TQ.put Dft.z v) v q t):=by
 obtain⟨u,a,b,c,d⟩:=t;cases q with
 |e=>rfl
 |a q=>exact ik q v a λx=>k ⟨u,x,b,c,d⟩
 |b q=>exact ik q v b λx=>k ⟨u,a,x,c,d⟩
 |c q=>exact ik q v c λx=>k ⟨u,a,b,x,d⟩
 |d q=>exact ik q v d λx=>k ⟨u,a,b,c,x⟩
theorem jy(q:QN Q1)(t:N5 O (T1 O))(k:O->AA):go2 q t k=k (N5.gt (g1 (α:=O)) t q):=by
 obtain⟨u,a,b,c,d⟩:=t;cases q with
 |e=>rfl
 |a q=>exact jx q a k
 |b q=>exact jx q b k
 |c q=>exact jx q c k
 |d q=>exact jx q d k
theorem im(q:QN Q1)(v:O)(t:N5 O (T1 O))(k:N5 O (T1 O)->AA):RB q v t k=k (N5.pt (p1 v) v q t):=by
 obtain⟨u,a,b,c,d⟩:=t;cases q with
 |e=>rfl
 |a q=>exact il q v a λx=>k ⟨u,x,b,c,d⟩
 |b q=>exact il q v b λx=>k ⟨u,a,x,c,d⟩
 |c q=>exact il q v c λx=>k ⟨u,a,b,x,d⟩
 |d q=>exact il q v d λx=>k ⟨u,a,b,c,x⟩
theorem jz(q:QN Q2)(t:N5 O (T2 O))(k:O->AA):Qg q t k=k (N5.gt (g2 (α:=O)) t q):=by
 obtain⟨u,a,b,c,d⟩:=t;cases q with
 |e=>rfl
 |a q=>exact jy q a k
 |b q=>exact jy q b k
 |c q=>exact jy q c k
 |d q=>exact jy q d k
theorem iq(q:QN Q2)(v:O)(t:N5 O (T2 O))(k:N5 O (T2 O)->AA):RA q v t k=k (N5.pt (p2 v) v q t):=by
 obtain⟨u,a,b,c,d⟩:=t;cases q with
 |e=>rfl
 |a q=>exact im q v a λx=>k ⟨u,x,b,c,d⟩
 |b q=>exact im q v b λx=>k ⟨u,a,x,c,d⟩
 |c q=>exact im q v c λx=>k ⟨u,a,b,x,d⟩
 |d q=>exact im q v d λx=>k ⟨u,a,b,c,x⟩
theorem ke(q:QN Q3)(t:N5 O (T3 O))(k:O->AA):Qf q t k=k (N5.gt (g3 (α:=O)) t q):=by
 obtain⟨u,a,b,c,d⟩:=t;cases q with
 |e=>rfl
 |a q=>exact jz q a k
 |b q=>exact jz q b k
 |c q=>exact jz q c k
 |d q=>exact jz q d k
theorem ir(q:QN Q3)(v:O)(t:N5 O (T3 O))(k:N5 O (T3 O)->AA):Qz q v t k=k (N5.pt (p3 v) v q t):=by
 obtain⟨u,a,b,c,d⟩:=t;cases q with
 |e=>rfl
 |a q=>exact iq q v a λx=>k ⟨u,x,b,c,d⟩
 |b q=>exact iq q v b λx=>k ⟨u,a,x,c,d⟩
 |c q=>exact iq q v c λx=>k ⟨u,a,b,x,d⟩
 |d q=>exact iq q v d λx=>k ⟨u,a,b,c,x⟩
theorem kg(q:QN Q4)(t:N5 O (T4 O))(k:O->AA):Qe q t k=k (N5.gt (g4 (α:=O)) t q):=by
 obtain⟨u,a,b,c,d⟩:=t;cases q with
 |e=>rfl
 |a q=>exact ke q a k
 |b q=>exact ke q b k
 |c q=>exact ke q c k
 |d q=>exact ke q d k
theorem iu(q:QN Q4)(v:O)(t:N5 O (T4 O))(k:N5 O (T4 O)->AA):Qy q v t k=k (N5.pt (p4 v) v q t):=by
 obtain⟨u,a,b,c,d⟩:=t;cases q with
 |e=>rfl
 |a q=>exact ir q v a λx=>k ⟨u,x,b,c,d⟩
 |b q=>exact ir q v b λx=>k ⟨u,a,x,c,d⟩
 |c q=>exact ir q v c λx=>k ⟨u,a,b,x,d⟩
 |d q=>exact ir q v d λx=>k ⟨u,a,b,c,x⟩
theorem kh(q:QN Q5)(t:N5 O (T5 O))(k:O->AA):Qd q t k=k (N5.gt (g5 (α:=O)) t q):=by
 obtain⟨u,a,b,c,d⟩:=t;cases q with
 |e=>rfl
 |a q=>exact kg q a k
 |b q=>exact kg q b k
 |c q=>exact kg q c k
 |d q=>exact kg q d k
theorem iv(q:QN Q5)(v:O)(t:N5 O (T5 O))(k:N5 O (T5 O)->AA):Qx q v t k=k (N5.pt (p5 v) v q t):=by
 obtain⟨u,a,b,c,d⟩:=t;cases q with
 |e=>rfl
 |a q=>exact iu q v a λx=>k ⟨u,x,b,c,d⟩
 |b q=>exact iu q v b λx=>k ⟨u,a,x,c,d⟩
 |c q=>exact iu q v c λx=>k ⟨u,a,b,x,d⟩
 |d q=>exact iu q v d λx=>k ⟨u,a,b,c,x⟩
theorem ki(q:QN Q6)(t:N5 O (T6 O))(k:O->AA):Qc q t k=k (N5.gt (g6 (α:=O)) t q):=by
 obtain⟨u,a,b,c,d⟩:=t;cases q with
 |e=>rfl
 |a q=>exact kh q a k
 |b q=>exact kh q b k
 |c q=>exact kh q c k
 |d q=>exact kh q d k
theorem iw(q:QN Q6)(v:O)(t:N5 O (T6 O))(k:N5 O (T6 O)->AA):Qw q v t k=k (N5.pt (p6 v) v q t):=by
 obtain⟨u,a,b,c,d⟩:=t;cases q with
 |e=>rfl
 |a q=>exact iv q v a λx=>k ⟨u,x,b,c,d⟩
 |b q=>exact iv q v b λx=>k ⟨u,a,x,c,d⟩
 |c q=>exact iv q v c λx=>k ⟨u,a,b,x,d⟩
 |d q=>exact iv q v d λx=>k ⟨u,a,b,c,x⟩
theorem kj(q:QN Q7)(t:N5 O (T7 O))(k:O->AA):Qb q t k=k (N5.gt (g7 (α:=O)) t q):=by
 obtain⟨u,a,b,c,d⟩:=t;cases q with
 |e=>rfl
 |a q=>exact ki q a k
 |b q=>exact ki q b k
 |c q=>exact ki q c k
 |d q=>exact ki q d k
theorem iy(q:QN Q7)(v:O)(t:N5 O (T7 O))(k:N5 O (T7 O)->AA):Qv q v t k=k (N5.pt (p7 v) v q t):=by
 obtain⟨u,a,b,c,d⟩:=t;cases q with
 |e=>rfl
 |a q=>exact iw q v a λx=>k ⟨u,x,b,c,d⟩
 |b q=>exact iw q v b λx=>k ⟨u,a,x,c,d⟩
 |c q=>exact iw q v c λx=>k ⟨u,a,b,x,d⟩
 |d q=>exact iw q v d λx=>k ⟨u,a,b,c,x⟩
theorem km(q:QN Q8)(t:N5 O (T8 O))(k:O->AA):Qa q t k=k (N5.gt (g8 (α:=O)) t q):=by
 obtain⟨u,a,b,c,d⟩:=t;cases q with
 |e=>rfl
 |a q=>exact kj q a k
 |b q=>exact kj q b k
 |c q=>exact kj q c k
 |d q=>exact kj q d k
theorem iz(q:QN Q8)(v:O)(t:N5 O (T8 O))(k:N5 O (T8 O)->AA):Qu q v t k=k (N5.pt (p8 v) v q t):=by
 obtain⟨u,a,b,c,d⟩:=t;cases q with
 |e=>rfl
 |a q=>exact iy q v a λx=>k ⟨u,x,b,c,d⟩
 |b q=>exact iy q v b λx=>k ⟨u,a,x,c,d⟩
 |c q=>exact iy q v c λx=>k ⟨u,a,b,x,d⟩
 |d q=>exact iy q v d λx=>k ⟨u,a,b,c,x⟩
theorem aHs(q:QN Q9)(t:N5 O (T9 O))(k:O->AA):aOH q t k=k (N5.gt (g9 (α:=O)) t q):=by
 obtain⟨u,a,b,c,d⟩:=t;cases q with
 |e=>rfl
 |a q=>exact km q a k
 |b q=>exact km q b k
 |c q=>exact km q c k
 |d q=>exact km q d k
theorem aHf(q:QN Q9)(v:O)(t:N5 O (T9 O))(k:N5 O (T9 O)->AA):aOy q v t k=k (N5.pt (p9 v) v q t):=by
 obtain⟨u,a,b,c,d⟩:=t;cases q with
 |e=>rfl
 |a q=>exact iz q v a λx=>k ⟨u,x,b,c,d⟩
 |b q=>exact iz q v b λx=>k ⟨u,a,x,c,d⟩
 |c q=>exact iz q v c λx=>k ⟨u,a,b,x,d⟩
 |d q=>exact iz q v d λx=>k ⟨u,a,b,c,x⟩
theorem gM(q:Q)(t:T O)(k:O->AA):F7 q t k=gO q t k:=aHs q t k
theorem iP(q:Q)(v:O)(t:T O)(k:T O->AA):ES q v t k=pO v q t k:=aHf q v t k
theorem aMM(q:QR)(k:QR->AA):Zo q k=k q.succ:=rfl
theorem aG2(p q:QR):Rk p q=p.beq q:=rfl
theorem aMN(q:QN QR)(k:QN QR->AA):Zn q k=k (QN.sc QR.succ QR.e q):=by
 cases q with
 |e=>rfl
 |a q=>rfl
 |b q=>rfl
 |c q=>rfl
 |d q=>exact aMM q λp=>k (.a p)
theorem aG3(p q:QN QR):Rj p q=QN.bq QR.beq p q:=by
 cases p<;>cases q<;>first|rfl|exact aG2 _ _
theorem aMO(q:QN Q1)(k:QN Q1->AA):Zm q k=k (QN.sc sc1 (QN.e (α:=QR)) q):=by
 cases q with
 |e=>rfl
 |a q=>rfl
 |b q=>rfl
 |c q=>rfl
 |d q=>exact aMN q λp=>k (.a p)
theorem aG4(p q:QN Q1):Ri p q=QN.bq bq1 p q:=by
 cases p<;>cases q<;>first|rfl|exact aG3 _ _
theorem aMP(q:QN Q2)(k:QN Q2->AA):Zl q k=k (QN.sc Zz (QN.e (α:=Q1)) q):=by
 cases q with
 |e=>rfl
 |a q=>rfl
 |b q=>rfl
 |c q=>rfl
 |d q=>exact aMO q λp=>k (.a p)
theorem aG5(p q:QN Q2):Rh p q=QN.bq bq2 p q:=by
 cases p<;>cases q<;>first|rfl|exact aG4 _ _
theorem aMQ(q:QN Q3)(k:QN Q3->AA):Zk q k=k (QN.sc Zy (QN.e (α:=Q2)) q):=by
 cases q with
 |e=>rfl
 |a q=>rfl
 |b q=>rfl
 |c q=>rfl
 |d q=>exact aMP q λp=>k (.a p)
theorem aG6(p q:QN Q3):Rg p q=QN.bq bq3 p q:=by
 cases p<;>cases q<;>first|rfl|exact aG5 _ _
theorem aMR(q:QN Q4)(k:QN Q4->AA):Zj q k=k (QN.sc Zx (QN.e (α:=Q3)) q):=by
 cases q with
 |e=>rfl
 |a q=>rfl
 |b q=>rfl
 |c q=>rfl
 |d q=>exact aMQ q λp=>k (.a p)
theorem aG7(p q:QN Q4):Rf p q=QN.bq bq4 p q:=by
 cases p<;>cases q<;>first|rfl|exact aG6 _ _
theorem aMS(q:QN Q5)(k:QN Q5->AA):Zi q k=k (QN.sc Zw (QN.e (α:=Q4)) q):=by
 cases q with
 |e=>rfl
 |a q=>rfl
 |b q=>rfl
 |c q=>rfl
 |d q=>exact aMR q λp=>k (.a p)
theorem aG8(p q:QN Q5):Re p q=QN.bq bq5 p q:=by
 cases p<;>cases q<;>first|rfl|exact aG7 _ _
theorem aMT(q:QN Q6)(k:QN Q6->AA):Zh q k=k (QN.sc Zv (QN.e (α:=Q5)) q):=by
 cases q with
 |e=>rfl
 |a q=>rfl
 |b q=>rfl
 |c q=>rfl
 |d q=>exact aMS q λp=>k (.a p)
theorem aG9(p q:QN Q6):Rc p q=QN.bq bq6 p q:=by
 cases p<;>cases q<;>first|rfl|exact aG8 _ _
theorem aMU(q:QN Q7)(k:QN Q7->AA):Zg q k=k (QN.sc Zu (QN.e (α:=Q6)) q):=by
 cases q with
 |e=>rfl
 |a q=>rfl
 |b q=>rfl
 |c q=>rfl
 |d q=>exact aMT q λp=>k (.a p)
theorem aHa(p q:QN Q7):Rb p q=QN.bq bq7 p q:=by
 cases p<;>cases q<;>first|rfl|exact aG9 _ _
theorem aMV(q:QN Q8)(k:QN Q8->AA):Zf q k=k (QN.sc Zt (QN.e (α:=Q7)) q):=by
 cases q with
 |e=>rfl
 |a q=>rfl
 |b q=>rfl
 |c q=>rfl
 |d q=>exact aMU q λp=>k (.a p)
theorem aHb(p q:QN Q8):Ra p q=QN.bq bq8 p q:=by
 cases p<;>cases q<;>first|rfl|exact aHa _ _
theorem aIJ(q:QN Q9)(k:QN Q9->AA):aPt q k=k (QN.sc Zs (QN.e (α:=Q8)) q):=by
 cases q with
 |e=>rfl
 |a q=>rfl
 |b q=>rfl
 |c q=>rfl
 |d q=>exact aMV q λp=>k (.a p)
theorem aDO(p q:QN Q9):Yt p q=QN.bq bq9 p q:=by
 cases p<;>cases q<;>first|rfl|exact aHb _ _
theorem uQ(q:Q)(k:Q->AA):Hx q k=mW q k:=aIJ q k
theorem aK3(p q:Q):Yt p q=p.beq q:=aDO p q
theorem iH(n:Nat)(k:Nat->AA):fN n k=k n:=by cases n<;>rfl
theorem cJ(b:Bool)(n:Nat)(k:AA):CV b n k=gd b n k:=by cases b<;>rfl
theorem mC(b:Bool)(x y:AA):IP b x y=match b with|true=>x|false=>y:=by cases b<;>rfl
theorem iX(a b:Bool):mY a b=(a&&b):=by cases a<;>rfl
theorem oZ(a:Bool):uE a=!a:=by cases a<;>rfl
theorem aGY(a b:Bool):YQ a b=(a==b):=by cases a<;>cases b<;>rfl
theorem rK(b:Bool)(k:V->AA):bF b k=bK b k:=by cases b<;>rfl
theorem uB(n b:Bool)(k:V->AA):SN n b k=bK (n != b) k:=by cases n<;>cases b<;>rfl
theorem mc(k:IntKind):mb k=Ja k:=by cases k<;>rfl
theorem aHw(k:IntKind):aOK k=LD k:=by cases k<;>rfl
theorem nk(l:Nat):RQ l=rA l:=rfl
theorem aOF(n:Int)(k:Int->AA):fI n k=k n:=by cases n<;>simp only[fI,iH]
theorem xb(kd:IntKind)(n:Int)(k:V->AA):wz kd n k=k (.int kd (kd.wrap n)):=by simp only[wz,aOF,aKd]
theorem aGG(m:Nat)(kd:IntKind)(k:V->AA):UK m kd k=match Nat.ble m (LD kd) with|true=>k (.int kd (.ofNat m))|false=>k (.int kd (kd.wrap (.ofNat m))):=by
 unfold UK;rw[aHw];cases Nat.ble m (LD kd)
 ·exact xb kd _ k
 ·rfl
theorem sP(n:Int)(kd:IntKind)(k:V->AA):au n kd k=jH kd n λn=>k (.int kd n):=by
 cases n with
 |ofNat m =>
  show fN m (λm=>UK m kd k)=jH kd (.ofNat m) λn=>k (.int kd n)
  rw[iH,aGG];simp only[jH,aH,gS];cases Nat.ble m (LD kd)<;>rfl
 |negSucc m =>
  show wz kd (.negSucc m) k=jH kd (.negSucc m) λn=>k (.int kd n)
  rw[xb];simp only[jH,gS]
theorem aGQ(x y:Int):YB x y=Tv x y:=by cases x<;>cases y<;>rfl
theorem aBj(x y:Int):TZ x y=zk x y:=by
 cases x with
 |negSucc a=>cases y<;>rfl
 |ofNat a =>
  cases y with
  |negSucc b=>rfl
  |ofNat b =>
   show @Bool.rec (λ_=>Int) _ _ (Nat.ble b a)=zk (.ofNat a) (.ofNat b);simp only[zk];cases Nat.ble b a<;>rfl
theorem yW(x y:Int):KG x y=LB x y:=by cases x<;>cases y<;>rfl
theorem jq(x y:Int):ya x y=Ll x y:=by cases x<;>cases y<;>rfl
theorem aDI(op:BinOp)(kd:IntKind)(x y:Int)(k:V->AA):Yv op kd x y k=rM op kd x y k:=by
 cases op
 case add=>show au (YB x y) kd k=_;rw[sP,aGQ];rfl
 case sub=>show au (TZ x y) kd k=_;rw[sP,aBj];rfl
 case eql=>show bF (ya x y) k=_;rw[rK,jq];rfl
 case neq=>show bF (uE (ya x y)) k=_;rw[rK,oZ,jq];rfl
 case lss=>show bF (uE (KG y x)) k=_;rw[rK,oZ,yW];rfl
 case leq=>show bF (KG x y) k=_;rw[rK,yW];rfl
 case gtr=>show bF (uE (KG x y)) k=_;rw[rK,oZ,yW];rfl
 case geq=>show bF (KG y x) k=_;rw[rK,yW];rfl
 all_goals rfl
theorem aDJ(op:BinOp)(l n m j:Nat)(k:V->AA):aJv op l n m j k=OV op l n m j k:=by
 cases op
 case add=>show YN l n m j k=_;simp only[YN,OV,cJ,iH,aH,nk];rfl
 case eql=>show bF (mY (Nat.beq l m) (Nat.beq n j)) k=_;rw[rK,iX];rfl
 case neq=>show bF (uE (mY (Nat.beq l m) (Nat.beq n j))) k=_;rw[rK,oZ,iX];rfl
 all_goals rfl
theorem oW{α:Type}(l:List α):∀k:Nat->AA,sq l k=qX l k:=by
 induction l with
 |nil=>intro k;rfl
 |cons x l ih =>
  intro k;show sq l (λn=>fN (Nat.succ n) k)=_;rw[ih,cI,cI,iH];rfl
theorem rH(l:List V):∀(m:List V)(k:List V->AA),sU l m k=k (l++m):=by
 induction l with
 |nil=>intro m k;rfl
 |cons v l ih=>intro m k;exact ih m λl'=>k (v::l')
theorem gh(fs args caps:List V)(k:List V->AA):OY fs args caps k=k (fs++(args++caps)):=by
 cases caps with
 |nil =>
  cases fs with
  |nil=>simp[OY]
  |cons f fs =>
   show sU (f::fs) args k=_;rw[rH,Bv]
 |cons c cs =>
  show sU args (c::cs) (λl=>sU fs l k)=_;rw[rH,rH]
theorem aBf(o:O)(k:Nat->T V->AA):XM o k=br o k:=by cases o<;>rfl
theorem tp(o:O):UX o=yZ o:=by cases o<;>rfl
theorem aAM(o:O)(k:List (V×V)->AA):R8 o k=rW o k:=by cases o<;>rfl
theorem aE4(o:O)(k:List (V×V)->AA):aJP o k=R9 o k:=by cases o<;>rfl
theorem nR(o:O)(k:Lk):qA o k=mV o k:=by
 cases o<;>rfl
theorem aAu(h:T O)(o:Q)(off:Nat)(o':Q)(DG:Nat)(k:Bool->AA):RW h o off o' DG k=Ib h o off o' DG k:=by
 unfold RW Ib;rw[aK3];cases o.beq o'
 ·simp only[gM,cJ,iX,tp]
 ·show @Bool.rec (λ_=>T O->Q->(Bool->AA)->AA) _ _ (Nat.beq off DG) h o k=_
  cases Nat.beq off DG
  ·simp only[gM,cJ,tp]
  ·rfl
theorem aET(h:T O)(o:Q)(off:Nat)(k:V->AA):Oy h o off k=J8 h o off k:=by
 simp only[Oy,J8,gM,aBf,cJ,ly,nY];rfl
theorem aEu(n:Nat):∀(i:Nat)(t:T V)(k:List V->AA),Ya n i t k=vE n i t k:=by
 induction n with
 |zero=>intro i t k;rfl
 |succ n ih =>
  intro i t k;show MU (qn i) t (λv=>Ya n (Nat.succ i) t λl=>k (v::l))=Jz i λq=>gV q t λv=>aW (i+1) λi'=>vE n i' t λl=>k (v::l)
  simp only[ly,ih,nY,aH]
theorem mg(h:T O)(o:Q)(off n:Nat)(k:List V->AA):OS h o off n k=nP h o off n k:=by
 simp only[OS,nP,gM,aBf,cJ,aEu];rfl
theorem lU(vs:List V):∀(i:Nat)(t:T V)(k:T V->AA),sD vs i t k=kE vs i t k:=by
 induction vs with
 |nil=>intro i t k;rfl
 |cons v vs ih =>
  intro i t k;show Nc (qn i) v t (λt'=>sD vs (Nat.succ i) t' k)=Jz i λq=>pV v q t λt'=>aW (i+1) λi'=>kE vs i' t' k
  simp only[xz,ih,nY,aH]
theorem aBO(vs:List V):∀(i:Nat)(t:T V)(k:T V->AA),cy vs i t k=k (dP vs i t):=by
 induction vs with
 |nil=>intro i t k;rfl
 |cons v vs ih =>
  intro i t k;show Nc (qn i) v t (λt'=>cy vs (Nat.succ i) t' k)=_;simp only[xz,ih,U1];rfl
theorem vq(l:List V):∀(n:Nat)(k:List V->AA),YV l n k=qK n l k:=by
 induction l with
 |nil=>intro n k;cases n<;>rfl
 |cons v l ih =>
  intro n k;cases n with
  |zero=>rfl
  |succ n=>exact ih n λl'=>k (v::l')
theorem aFM(l:List V):∀(off n:Nat)(k:List V->AA),aJZ l off n k=vQ off n l k:=by
 induction l with
 |nil =>
  intro off n k;cases off with
  |zero=>exact vq [] n k
  |succ off=>rfl
 |cons v l ih =>
  intro off n k;cases off with
  |zero=>exact vq (v::l) n k
  |succ off=>exact ih off n k
theorem aAT(l:List V):∀(n:Nat)(k:V->AA),X2 l n k=ym l n k:=by
 induction l with
 |nil=>intro n k;rfl
 |cons v l ih =>
  intro n k;cases n with
  |zero=>rfl
  |succ n=>exact ih n k
theorem aEp(agg:Bool)(off n:Nat)(l:List V)(k:V->AA):We agg off n l k=N9 agg off n l k:=by
 cases agg
 ·exact aAT l off k
 ·exact aFM l off n λl'=>k (.agg l')
theorem aFy(l:List V):∀(off:Nat)(new:List V)(k:List V->AA),aJY l off new k=qE l off new k:=by
 induction l with
 |nil =>
  intro off new k;cases off with
  |zero=>cases new<;>rfl
  |succ off=>rfl
 |cons x l ih =>
  intro off new k;cases off with
  |zero =>
   cases new with
   |nil=>rfl
   |cons v vs=>exact ih 0 vs λl'=>k (v::l')
  |succ off=>exact ih off new λl'=>k (x::l')
theorem aEe(c:Nat)(o:Q)(off len sz i:Nat)(k:V->AA):Sq c o off len sz i k=gd (Nat.blt i len) c (aW (off+i*sz) λa=>k (.ptr o a)):=by
 simp only[Sq,cJ,iH,aH];rfl
theorem xw(len sz:Nat)(h:T O)(o:Q)(off:Nat)(k:Nat->List V->AA):Ss len sz h o off k=match len with|0=>k 0 []|len=>nP h o off (len*sz) λl=>k len l:=by
 cases len with
 |zero=>rfl
 |succ m=>exact mg h o off _ _
theorem aDZ(l:Nat):∀(n:Nat)(k:List V->AA),RG l n k=MY l n k:=by
 induction l with
 |zero=>intro n k;rfl
 |succ l ih =>
  intro n k;show fN (Nat.mod n 256) (λc=>fN (Nat.div n 256) λn'=>RG l n' λcs=>k (.int .u8 (.ofNat c)::cs))=_;simp only[iH,ih,MY,aH];rfl
theorem aEP(l:List Q):∀(h:T O)(k:T O->AA),Ye l h k=yU l h k:=by
 induction l with
 |nil=>intro h k;rfl
 |cons q l ih =>
  intro h k;show ES q .dead h (λh'=>Ye l h' k)=_;simp only[iP,ih,yU]
theorem ar(o:Q)(off:Nat)(vs:List V)(h:T O)(k:T O->AA):M3 o off vs h k=Hv o off vs h k:=by
 simp only[M3,Hv,gM,bV];generalize h.ob o=ob;cases ob<;>try rfl
 rename_i n t BT B6 ty ex;show U7 n t BT B6 ty ex o off vs h k=_;simp only[U7,oW,cJ,lU,mC,iP,Z7,aEP];rfl
theorem rv(ty sz len m:Nat)(old new:List V)(h:T O)(nx:Q)(k:Kw):UY ty sz len m old new h nx k=pY ty sz len m old new h nx k:=by
 simp only[UY,pY,cJ,lU,iH,aH,iP,uQ];rfl
theorem YR(v:V)(k:IntKind->Int->AA):vI v k=MZ v k:=by cases v<;>rfl
theorem YT(v:V)(k:Bool->AA):vB v k=Jv v k:=by cases v<;>rfl
theorem fg(v:V)(k:Nat->AA):vN v k=H3 v k:=by
 cases v<;>try rfl
 rename_i kd n;cases n<;>rfl
theorem fh(v:V)(k:Q->Nat->AA):vP v k=II v k:=by cases v<;>rfl
theorem wu(v:V)(k:Nat->Nat->AA):vS v k=JN v k:=by cases v<;>rfl
theorem aJ7(v:V)(k:List V->AA):vA v k=ON v k:=by cases v<;>rfl
theorem aPR(v:V)(k:List V->AA):vT v k=match v with|.tup l=>k l|_=>.bad 55:=by cases v<;>rfl
theorem oq(v:V)(k:Nat->AA):Tc v k=mi v k:=by cases v<;>rfl
theorem aGs(v:V)(sz i:Nat)(k:V->AA):aKa v sz i k=x9 sz v i k:=by
 cases v<;>try rfl
 ·exact aEe _ _ _ _ _ _ k
 ·exact aEe _ _ _ _ _ _ k
theorem om(v:V)(k:List V->AA):O9 v k=JM v k:=by cases v<;>rfl
theorem aI5(v:V)(k:V->AA):aPQ v k=match v with|.ptr o off=>k (.ptr o off)|.fn f fs cs=>k (.fn f fs cs)|.ifc t u=>k (.ifc t u)|.yld l=>k (.yld l)|_=>.bad 48:=by cases v<;>rfl
theorem aI1(op:BinOp)(a b:V)(k:V->AA):aPO a op b k=xn op a b k:=by
 cases a<;>try rfl
 ·rename_i kd x
  show aJ8 b op kd x k=_;cases b<;>try rfl
  rename_i HB y;show CV (Nat.beq (mb kd) (mb HB)) 16 (Yv op kd x y k)=_;rw[cJ,aDI,mc,mc];rfl
 ·rename_i l n
  show aJ9 b op l n k=_;cases b<;>try rfl
  rename_i m j;exact aDJ op l n m j k
theorem aGy(h:T O)(a b:V)(k:Bool->AA):UL a k=GR .nilS h a b k:=by cases a<;>rfl
theorem aGx(h:T O)(a b:V)(k:Bool->AA):UM a k=GR .nilM h a b k:=by cases a<;>rfl
theorem aGv(h:T O)(a b:V)(k:Bool->AA):UO a k=GR .nilF h a b k:=by cases a<;>rfl
theorem aGw(h:T O)(a b:V)(k:Bool->AA):UN a k=GR .nilI h a b k:=by cases a<;>rfl
theorem aCM(h:T O)(a b:V)(k:Bool->AA):aGA a h b k=GR .ptr h a b k:=by
 cases a<;>try rfl
 ·show aKb b k=_
  cases b<;>rfl
 ·rename_i o off
  show aKc b h o off k=_;cases b<;>try rfl
  rename_i o' DG;exact aAu h o off o' DG k
theorem aI2(sz:Nat)(v:V)(lo hi:Nat)(k:V->AA):aPP v sz lo hi k=bg sz v lo hi none k:=by
 cases v<;>try rfl
 ·show CV (mY (Nat.beq lo 0) (Nat.beq hi 0)) 40 (k .nils)=gd (Nat.beq lo 0&&Nat.beq hi 0&&true) 40 (k .nils)
  rw[cJ,iX,Gp]
 ·rename_i o off len cap
  show Yd o off cap sz lo hi k=_;simp only[Yd,bg,cJ,iX,iH,aH,mC];rfl
 ·rename_i o off len z
  show CV (Nat.beq sz z) 43 (Yc o off len sz lo hi k)=_;simp only[Yc,bg,cJ,iX,iH,aH,mC];cases Nat.beq sz z
  ·rfl
  ·rfl
 ·show CV (mY (Nat.beq lo 0) (Nat.beq hi 0)) 45 (k .se)=gd (Nat.beq lo 0&&Nat.beq hi 0) 45 (k .se)
  rw[cJ,iX]
theorem aM3(v:V)(k:V->AA):Z9 v k=match v with|.nils=>k .nilp|.sl o off (_+1) _=>k (.ptr o off)|.su o off (_+1) _=>k (.ptr o off)|_=>.bad 114:=by
 cases v<;>try rfl
 ·rename_i o off len cap;cases len<;>rfl
 ·rename_i o off len z;cases len<;>rfl
theorem fc(sz:Nat)(v:V)(h:T O)(k:Nat->List V->AA):zu v sz h k=jL sz v h k:=by
 cases v<;>try rfl
 ·rename_i l n
  show CV (Nat.beq sz 1) 62 (RG l n λcs=>k l cs)=_;rw[cJ,aDZ];rfl
 ·exact xw _ sz h _ _ k
 ·exact xw _ sz h _ _ k
theorem aM0(ty sz m:Nat)(v:V)(new:List V)(h:T O)(nx:Q)(k:Kw):Zb v ty sz m new h nx k=K4 ty sz v m new h nx k:=by
 cases v<;>try rfl
 ·show apN m ty sz new h nx k=_
  cases m with
  |zero=>rfl
  |succ m=>exact rv ty sz 0 _ [] new h nx k
 ·rename_i o off len cap
  show YA o off len cap ty sz m new h nx k=_;simp only[YA,K4,mC,xw,rv];show(match Nat.ble (len+m) cap with|true=>_|false=>_)=_;cases Nat.ble (len+m) cap
  ·simp only[jL]
   cases len<;>rfl
  ·cases m with
   |zero=>rfl
   |succ m=>simp only[ar,iH,aH];rfl
 ·rename_i o off len z
  show CV (Nat.beq sz z) 63 (aNX m o off len ty sz new h nx k)=_;rw[cJ];simp only[K4];congr 1;cases m with
  |zero=>rfl
  |succ m =>
   show F7 o h (λob=>aJt ob o off len ty sz (Nat.succ m) new h nx k)=_;rw[gM];simp only[bV];generalize h.ob o=ob;cases ob<;>try rfl
   rename_i n t BT B6 E5 ex;show IP _ _ _=_;rw[mC];simp only[aJs,cJ,iX,ar,lU,iH,aH,iP,uQ,<-Bool.and_assoc];rfl
theorem aM1(n:Nat)(v:V)(new:List V)(h:T O)(nx:Q)(k:Kw):Za v n new h nx k=match v with
  |.sl o off _ _=>Hv o off new h λh'=>k (.int .i64 (.ofNat n)) h' nx
  |.su o off _ _=>Hv o off new h λh'=>k (.int .i64 (.ofNat n)) h' nx
  |_=>.bad 73:=by
 cases v<;>try rfl
 ·exact ar _ _ _ _ _
 ·exact ar _ _ _ _ _
theorem aBm(ok:Bool)(z:V)(k:V->AA):XJ ok z k=zX ok z k:=by cases ok<;>rfl
theorem aM4(ok:Bool)(t:Nat)(z v:V)(k:V->AA):Z8 v ok t z k=Of ok t z v k:=by
 cases v<;>try rfl
 ·exact aBm ok z k
 ·rename_i t' u
  show YW ok t z t' u k=_;simp only[YW,Of,mC,aBm];cases Nat.beq t' t
  ·rfl
  ·cases ok<;>rfl
def BS(g:Xg)(x:X):Prop:=∀tm k,g tm k=xK x tm k
def fq(g:Xs)(xs:List X):Prop:=∀tm k,g tm k=H4 xs tm k
def DP(p:Pg)(b:PB):Prop:=∀tm h k,p tm h k=pK b tm h k
def Nj(a:Ag)(b:AB):Prop:=∀tm k,a tm k=aK b tm k
def Lq(w:Wg)(b:WB):Prop:=∀tm h nx k,w tm h nx k=wK b tm h nx k
def Ix(d:Dt)(q:Option Q):Prop:=∀v tm k,d v tm k=rB q v tm k
def Rq(b:Bd)(ps:List (Nat×Nat×X)):Prop:=∀tm l k,b tm l k=gm tm ps l k
def xd(g:Og)(x:Option X):Prop:=∀tm d k,g tm d k=zH x tm d k
def Rn(g:Sg)(sz:Nat)(ps:List (Nat×X)):Prop:=∀tm t k,g tm t k=vY tm sz ps t k
theorem aPY(v:V):BS (xC v) (.c v):=λ_ _=>rfl
theorem aI7:BS aPX .bad:=λ_ _=>rfl
theorem aNf:fq ZY []:=λ_ _=>rfl
theorem aNe{g:Xg}{r:Xs}{x:X}{xs:List X}(h1:BS g x)(h2:fq r xs):fq (ZZ g r) (x::xs):=λtm k=>by
 show g tm (λv=>r tm λl=>k (v::l))=xK x tm λv=>H4 xs tm λl=>k (v::l)
 rw[h1];congr 1;funext v;exact h2 tm _
theorem aK1:Rq bdN []:=λ_ _ _=>rfl
theorem aK0{g:Xg}{r:Bd}{x:X}{ps:List (Nat×Nat×X)}{off n:Nat}(h1:BS g x)(h2:Rq r ps):Rq (Wo off n g r) ((off,n,x)::ps):=λtm l k=>by
 simp only[Wo,gm,h1 tm,om,oW,cJ,aFy,h2 tm]
theorem aLY:xd ogN none:=λ_ _ _=>rfl
theorem aLZ{g:Xg}{x:X}(h1:BS g x):xd (Ux g) (some x):=λtm d k=>by
 simp only[Ux,zH,h1 tm,fg]
theorem aML{sz:Nat}:Rn Zq sz []:=λ_ _ _=>rfl
theorem aMK{g:Xg}{r:Sg}{x:X}{ps:List (Nat×X)}{i sz:Nat}(h1:BS g x)(h2:Rn r sz ps):Rn (Uj i sz g r) sz ((i,x)::ps):=λtm t k=>by
 simp only[Uj,vY,h1 tm,om,oW,cJ,lU,h2 tm];rfl
theorem aGB(c:Nat)(v:V)(k:Nat->Nat->AA):O5 v c k=match v with|.str l n=>k l n|_=>.bad c:=by cases v<;>rfl
theorem aGu(c:Nat)(v:V)(k:IntKind->Int->AA):O7 v c k=match v with|.int kd n=>k kd n|_=>.bad c:=by cases v<;>rfl
theorem aGz(c:Nat)(v:V)(k:Q->Nat->AA):O6 v c k=match v with|.ptr o a=>k o a|_=>.bad c:=by cases v<;>rfl
theorem aEM(s:KK)(h:T O)(x y:V)(k:Bool->AA):KI s h x y k=eC s h x y k:=by
 cases s
 ·show O5 x 35 (λl n=>O5 y 32 λm j=>k (mY (Nat.beq l m) (Nat.beq n j)))=_
  rw[aGB];cases x<;>try rfl
  simp only[aGB];cases y<;>try rfl
  simp only[iX];rfl
 ·show O7 x 35 (λkd a=>O7 y 34 λHB b=>CV (Nat.beq (mb kd) (mb HB)) 33 (k (ya a b)))=_
  rw[aGu];cases x<;>try rfl
  simp only[aGu];cases y<;>try rfl
  simp only[cJ,mc,jq];rfl
 ·show O6 x 35 (λo a=>O6 y 34 λo' b=>RW h o a o' b k)=_
  rw[aGz];cases x<;>try rfl
  simp only[aGz];cases y<;>try rfl
  simp only[aAu];rfl
 ·rfl
theorem rj(s:KK)(h:T O)(x:V)(k:V->AA)(kn:AA):∀es,findF es (KI s h) x k kn=fZ s h x es k kn
 |[]=>rfl
 |(y,v)::es=>by
  show KI s h x y (λb=>IP b (k v) (findF es (KI s h) x k kn))=_;rw[aEM];simp only[fZ];congr 1;funext b;rw[mC,rj s h x k kn es];cases b<;>rfl
theorem oj(s:KK)(h:T O)(x:V)(f:V->V)(z:V):∀(es:List (V×V))(i:Nat)(k:Ku),TW es (KI s h) x f z i k=mP s h x f z es i k
 |[],i,k=>rfl
 |(y,u)::es,i,k=>by
  show KI s h x y (λb=>@Bool.rec (λ_=>V->V->List (V×V)->Ut->Ut) (λy u _ ih e x f z i k=>fN (Nat.succ i) λi'=>ih e x f z i' λes' j w=>k ((y,u)::es') j w) (λ_ u es _ _ x f _ i k=>k ((x,f u)::es) i u) b y u es (TW es) (KI s h) x f z i k)=_;rw[aEM];simp only[mP];congr 1;funext b;cases b
  ·simp only[iH,aH,oj s h x f z es]
  ·rfl
theorem yg(s:KK)(x:V)(k:AA):SP s x k=hY s x k:=by cases s<;>rfl
theorem Tz(c:Nat)(v:V)(k:Q->AA)(kn:AA):vM v c k kn=match v with|.map o=>k o|.nilm=>kn|_=>.bad c:=by cases v<;>rfl
section
variable {x y z:Xg}{a b c:X}
theorem aMq(hx:BS x a):DP (pMv x) (.mv a):=λtm _ k=>hx tm k
theorem aFI(hx:BS x a)(hy:BS y b)(hz:BS z c):DP (Y5 x y z) (.pick a b c):=λtm h k=>by
 simp only[Y5,pK,hx tm,YT];congr 1;funext v;congr 1;funext t;cases t
 ·exact hz tm k
 ·exact hy tm k
theorem aIf{op:BinOp}(hx:BS x a)(hy:BS y b):DP (Xa op x y) (.bin op a b):=λtm h k=>by simp only[Xa,pK,hx tm,hy tm,aI1]
theorem aMc{neg:Bool}{m:EqM}(hx:BS x a)(hy:BS y b):DP (@EqM.rec (λ_=>Pg) (TG neg x y) (TH neg x y) (pQ UL neg x y) (pQ UM neg x y) (pQ UO neg x y) (pQ UN neg x y) m) (.eq neg m a b):=λtm h k=>by
 cases m
 ·show TG neg x y tm h k=_
  simp only[TG,pK,hx tm,hy tm,aCM,uB]
 ·show TH neg x y tm h k=_
  simp only[TH,pK,hx tm,hy tm,YT,uB,aGY,GR]
 ·show pQ UL neg x y tm h k=_
  simp only[pQ,pK,hx tm,hy tm,uB];congr 1;funext u;congr 1;funext w;exact aGy h u w _
 ·show pQ UM neg x y tm h k=_
  simp only[pQ,pK,hx tm,hy tm,uB];congr 1;funext u;congr 1;funext w;exact aGx h u w _
 ·show pQ UO neg x y tm h k=_
  simp only[pQ,pK,hx tm,hy tm,uB];congr 1;funext u;congr 1;funext w;exact aGv h u w _
 ·show pQ UN neg x y tm h k=_
  simp only[pQ,pK,hx tm,hy tm,uB];congr 1;funext u;congr 1;funext w;exact aGw h u w _
theorem aIw(hx:BS x a):DP (Ww x) (.not a):=λtm h k=>by simp only[Ww,pK,hx tm,YT,rK,oZ]
theorem aIv(hx:BS x a):DP (Wx x) (.neg a):=λtm h k=>by
 simp only[Wx,pK,hx tm,YR,sP,aBj];rfl
theorem aIi{kd:IntKind}(hx:BS x a):DP (XI kd x) (.cvi kd a):=λtm h k=>by simp only[XI,pK,hx tm,YR,sP]
theorem aIj(hx:BS x a):DP (XH x) (.cvs a):=λtm h k=>by simp only[XH,pK,hx tm,wu]
theorem aIh(hx:BS x a):DP (X8 x) (.cis a):=λtm h k=>by simp only[X8,pK,hx tm,fg,cJ];rfl
theorem aIg{l:List V}{r:Bd}{ps:List (Nat×Nat×X)}(hr:Rq r ps):DP (X9 l r) (.bld l ps):=λtm h k=>by simp only[X9,pK,hr tm]
theorem aIp(hx:BS x a):DP (XD x) (.ld1 a):=λtm h k=>by simp only[XD,pK,hx tm,fh,aET]
theorem aIq{n:Nat}(hx:BS x a):DP (XC n x) (.ldn n a):=λtm h k=>by simp only[XC,pK,hx tm,fh,mg]
theorem aIu(hx:BS x a):DP (Wy x) (.nck a):=λtm h k=>by
 simp only[Wy,pK,hx tm];congr 1;funext v;exact aI5 v k
theorem aMe{off:Nat}(hx:BS x a):DP (Uu off x) (.fa off a):=λtm h k=>by simp only[Uu,pK,hx tm,fh,iH,aH];rfl
theorem aMf{agg:Bool}{off n:Nat}(hx:BS x a):DP (Us agg off n x) (.fd agg off n a):=λtm h k=>by simp only[Us,pK,hx tm,aJ7,aEp]
theorem aMg{sz:Nat}(hx:BS x a)(hy:BS y b):DP (Ur sz x y) (.ia sz a b):=λtm h k=>by simp only[Ur,pK,hx tm,hy tm,fg,aGs]
theorem aIm{len sz:Nat}(hx:BS x a)(hy:BS y b):DP (XG len sz x y) (.iaa len sz a b):=λtm h k=>by simp only[XG,pK,hx tm,hy tm,fg,fh,cJ,iH,aH];rfl
theorem aIo(hx:BS x a)(hy:BS y b):DP (XE x y) (.ixs a b):=λtm h k=>by simp only[XE,pK,hx tm,hy tm,fg,wu,cJ,iH,aH,nk];rfl
theorem aIn{agg:Bool}{len sz:Nat}(hx:BS x a)(hy:BS y b):DP (XF agg len sz x y) (.ixa agg len sz a b):=λtm h k=>by simp only[XF,pK,hx tm,hy tm,fg,aJ7,cJ,iH,aH,aEp];rfl
theorem aIy{lo hi:Og}{l u:Option X}(hx:BS x a)(hl:xd lo l)(hu:xd hi u):DP (Wu x lo hi) (.slS a l u):=λtm h k=>by
 simp only[Wu,pK,hx tm,wu,hl tm,hu tm,cJ,iX,iH,aH,nk];rfl
theorem aIx{sz:Nat}{lo hi:Og}{l u:Option X}(hx:BS x a)(hl:xd lo l)(hu:xd hi u):DP (Wv sz x lo hi) (.slL sz a l u none):=λtm h k=>by
 simp only[Wv,pK,hx tm,oq,hl tm,hu tm,aI2]
theorem aIt{t:Nat}(hx:BS x a):DP (Wz t x) (.mki t a):=λtm h k=>by simp only[Wz,pK,hx tm]
theorem aIs{f:Q}{r s:Xs}{xs ys:List X}(hr:fq r xs)(hs:fq s ys):DP (XA f r s) (.mkf f xs ys):=λtm h k=>by simp only[XA,pK,hr tm,hs tm]
theorem aMm{s:KK}{ok:Bool}{z:V}(hx:BS x a)(hy:BS y b):DP (Uq s ok z x y) (.lk s ok z a b):=λtm h k=>by
 simp only[Uq,pK,hx tm,hy tm,yg,Tz,gM,aAM,rj];congr 1;funext m;congr 1;funext u;congr 1;cases m<;>try rfl
 ·cases ok<;>rfl
 ·cases ok<;>rfl
theorem aFF(hx:BS x a):DP (Y6 x) (.lenS a):=λtm h k=>by simp only[Y6,pK,hx tm,wu]
theorem aFB(hx:BS x a):DP (Y8 x) (.lenL a):=λtm h k=>by simp only[Y8,pK,hx tm,oq]
theorem aFD(hx:BS x a):DP (Y7 x) (.lenM a):=λtm h k=>by
 simp only[Y7,pK,hx tm,Tz,gM,aAM,oW];congr 1;funext v;cases v<;>rfl
theorem aMu(hx:BS x a):DP (Up x) (.sd a):=λtm h k=>by
 simp only[Up,pK,hx tm];congr 1;funext v;rw[aM3];cases v<;>try rfl
theorem aIr(hx:BS x a)(hy:BS y b):DP (XB x y) (.max a b):=λtm h k=>by
 simp only[XB,pK,hx tm,hy tm,YR,mC,yW];rfl
theorem aMd{i:Nat}(hx:BS x a):DP (Uv i x) (.ex i a):=λtm h k=>by
 simp only[Uv,pK,hx tm,aPR,aAT];rfl
theorem aMx{ok:Bool}{t:Nat}{z:V}(hx:BS x a):DP (Uo ok t z x) (.ta ok t z a):=λtm h k=>by simp only[Uo,pK,hx tm,aM4]
theorem sC(b:PB):DP (ui b) b:=λ_ _ _=>rfl
theorem aKh{ty n:Nat}{t:T V}:Nj (aAl ty n t) (.al ty n t):=λ_ _=>rfl
theorem aKj{ty n:Nat}(hx:BS x a):Nj (ZQ ty n x) (.bx ty n a):=λtm k=>by simp only[ZQ,aK,hx tm,om,oW,cJ,lU]
theorem aGM{ty sz len:Nat}{t:T V}{g:Sg}{ps:List (Nat×X)}(hg:Rn g sz ps):Nj (Xw ty sz len t g) (.bsl ty sz len t ps):=λtm k=>by
 simp only[Xw,aK,hg tm,iH,aH];rfl
theorem aGN:Nj aNm .mkm:=λ_ _=>rfl
theorem aDk(b:AB):Nj (aJq b) b:=λ_ _=>rfl
theorem aNd{n:Nat}(hx:BS x a)(hy:BS y b):Lq (U8 n x y) (.st n a b):=λtm h nx k=>by simp only[U8,wK,hx tm,hy tm,fh,om,oW,cJ,ar]
theorem aII(ob:O)(F:List (V×V)->(List (V×V)->AA)->AA)(k:O->AA):R8 ob (λes=>F es λes'=>aJ6 ob es' k)=rW ob λes=>F es λes'=>k (RR ob es'):=by cases ob<;>rfl
theorem aNa{s:KK}(hx:BS x a)(hy:BS y b)(hz:BS z c):Lq (Ua s x y z) (.mu s a b c):=λtm h nx k=>by
 simp only[Ua,wK,hx tm,hy tm,hz tm,yg,Tz,gM,oj,iP];congr 1;funext m;congr 1;funext u;congr 1;funext v;congr 1;cases m<;>try rfl
 simp only[bV];exact aII _ (λes g=>mP s h u (λ_=>v) v es 0 λes' _ _=>g es') _
theorem aM9{s:KK}{z:V}(hx:BS x a)(hy:BS y b):Lq (Ub s z x y) (.me s z a b):=λtm h nx k=>by
 simp only[Ub,wK,hx tm,hy tm,yg,Tz,gM,oj,iP,aE4];congr 1;funext m;congr 1;funext u;congr 1;cases m<;>rfl
theorem aM6{ty sz:Nat}(hx:BS x a)(hy:BS y b):Lq (Ud ty sz x y) (.ap ty sz a b):=λtm h nx k=>by
 simp only[Ud,wK,hx tm,hy tm,fc,cJ,aM0]
theorem aM7{sz:Nat}(hx:BS x a)(hy:BS y b):Lq (Uc sz x y) (.cp sz a b):=λtm h nx k=>by
 simp only[Uc,wK,hx tm,hy tm,oq,fc,cJ,aM1];rfl
theorem aNc(hx:BS x a):Lq (U9 x) (.sb a):=λtm h nx k=>by
 simp only[U9,wK,hx tm,wu,aDZ,lU,iP,uQ]
theorem wx(b:WB):Lq (YX b) b:=λ_ _ _ _=>rfl
end
end
section
def Tot{α:Type}(Φ:(α->AA)->AA):Prop:=(∃a,∀k,Φ k=k a)\/∃n,∀k,Φ k=.bad n
def Tot0(Φ:AA->AA):Prop:=(∀k,Φ k=k)\/∃n,∀k,Φ k=.bad n
def TotW(Φ:Kw->AA):Prop:=(∃v h nx,∀k,Φ k=k v h nx)\/∃n,∀k,Φ k=.bad n
variable {α β:Type}
theorem Tot.ret(a:α):Tot (λk=>k a):=.inl ⟨a,λ_=>rfl⟩
theorem Tot.bad(n:Nat):Tot (λ_:α->AA=>.bad n):=.inr ⟨n,λ_=>rfl⟩
theorem TotW.ret(v:V)(h:T O)(nx:Q):TotW (λk=>k v h nx):=.inl ⟨v,h,nx,λ_=>rfl⟩
theorem TotW.bad(n:Nat):TotW (λ_=>.bad n):=.inr ⟨n,λ_=>rfl⟩
theorem Tot.bind{Φ:(α->AA)->AA}{Z:α->(β->AA)->AA}(h:Tot Φ)(hf:∀a,Tot (Z a)):Tot (λk=>Φ λa=>Z a k):=by
 rcases h with⟨a,h⟩|⟨n,h⟩
 ·rw[show(λk=>Φ λa=>Z a k)=Z a from funext λk=>h _];exact hf a
 ·exact .inr ⟨n,λk=>h _⟩
theorem Tot.bindW{Φ:(α->AA)->AA}{Z:α->Kw->AA}(h:Tot Φ)(hf:∀a,TotW (Z a)):TotW (λk=>Φ λa=>Z a k):=by
 rcases h with⟨a,h⟩|⟨n,h⟩
 ·rw[show(λk=>Φ λa=>Z a k)=Z a from funext λk=>h _];exact hf a
 ·exact .inr ⟨n,λk=>h _⟩
theorem Tot0.bind{Φ:AA->AA}{Z:(β->AA)->AA}(h:Tot0 Φ)(hf:Tot Z):Tot (λk=>Φ (Z k)):=by
 rcases h with h|⟨n,h⟩
 ·rw[show(λk=>Φ (Z k))=Z from funext λk=>h _];exact hf
 ·exact .inr ⟨n,λk=>h _⟩
theorem Tot0.bindW{Φ:AA->AA}{Z:Kw->AA}(h:Tot0 Φ)(hf:TotW Z):TotW (λk=>Φ (Z k)):=by
 rcases h with h|⟨n,h⟩
 ·rw[show(λk=>Φ (Z k))=Z from funext λk=>h _];exact hf
 ·exact .inr ⟨n,λk=>h _⟩
theorem eM(b:Bool)(n:Nat):Tot0 (gd b n):=by cases b<;>first|exact .inl λ_=>rfl|exact .inr ⟨n,λ_=>rfl⟩
def Tot2{α β:Type}(Φ:(α->β->AA)->AA):Prop:=(∃a b,∀k,Φ k=k a b)\/∃n,∀k,Φ k=.bad n
theorem Tot2.bindW{Φ:(α->β->AA)->AA}{Z:α->β->Kw->AA}(h:Tot2 Φ)(hf:∀a b,TotW (Z a b)):TotW (λk=>Φ λa b=>Z a b k):=by
 rcases h with⟨a,b,h⟩|⟨n,h⟩
 ·rw[show(λk=>Φ λa b=>Z a b k)=Z a b from funext λk=>h _];exact hf a b
 ·exact .inr ⟨n,λk=>h _⟩
theorem Tot2.bind{γ:Type}{Φ:(α->β->AA)->AA}{Z:α->β->(γ->AA)->AA}(h:Tot2 Φ)(hf:∀a b,Tot (Z a b)):Tot (λk=>Φ λa b=>Z a b k):=by
 rcases h with⟨a,b,h⟩|⟨n,h⟩
 ·rw[show(λk=>Φ λa b=>Z a b k)=Z a b from funext λk=>h _];exact hf a b
 ·exact .inr ⟨n,λk=>h _⟩
theorem iA(x:X)(tm:T V):Tot (xK x tm):=by
 cases x
 ·exact .inl ⟨_,λk=>dZ _ tm k⟩
 ·exact .inl ⟨_,λ_=>rfl⟩
 ·exact .inr ⟨2,λ_=>rfl⟩
theorem aGj(tm:T V):∀xs:List X,Tot (H4 xs tm)
 |[]=>.inl ⟨[],λ_=>rfl⟩
 |x::xs=>(iA x tm).bind λv=>(aGj tm xs).bind λl=>.ret (v::l)
theorem aPI(v:V):Tot2 (II v):=by cases v<;>first|exact .inl ⟨_,_,λ_=>rfl⟩|exact .inr ⟨_,λ_=>rfl⟩
theorem YU(v:V):Tot2 (JN v):=by cases v<;>first|exact .inl ⟨_,_,λ_=>rfl⟩|exact .inr ⟨_,λ_=>rfl⟩
theorem aPH(v:V):Tot (H3 v):=by
 cases v<;>first|exact .inr ⟨_,λ_=>rfl⟩|skip
 rename_i kd n;cases n<;>first|exact .inl ⟨_,λ_=>rfl⟩|exact .inr ⟨_,λ_=>rfl⟩
theorem aMZ(v:V):Tot (JM v):=by cases v<;>first|exact .inl ⟨_,λ_=>rfl⟩|exact .inr ⟨_,λ_=>rfl⟩
theorem aBp{α:Type}(l:List α):Tot (qX l):=.inl ⟨_,λk=>cI l k⟩
theorem aBs(o:O):Tot2 (br o):=by cases o<;>first|exact .inl ⟨_,_,λ_=>rfl⟩|exact .inr ⟨_,λ_=>rfl⟩
theorem aBq(o:O):Tot (rW o):=by cases o<;>first|exact .inl ⟨_,λ_=>rfl⟩|exact .inr ⟨_,λ_=>rfl⟩
theorem wg(o:O):Tot (R9 o):=by cases o<;>first|exact .inl ⟨_,λ_=>rfl⟩|exact .inr ⟨_,λ_=>rfl⟩
theorem kJ(q:Q)(h:T O):Tot (gO q h):=.inl ⟨_,λk=>bV q h k⟩
theorem kK(v:O)(q:Q)(h:T O):Tot (pO v q h):=.inl ⟨_,λk=>cM v q h k⟩
theorem oH(vs:List V)(i:Nat)(t:T V):Tot (kE vs i t):=.inl ⟨_,λk=>dT vs i t k⟩
theorem cQ(n:Nat):Tot (aW n):=.inl ⟨n,λk=>aH n k⟩
theorem ah(q:Q):Tot (mW q):=.inl ⟨_,λ_=>rfl⟩
theorem wa(n:Nat):∀(i:Nat)(t:T V),Tot (vE n i t):=by
 induction n with
 |zero=>intro i t;exact .inl ⟨[],λ_=>rfl⟩
 |succ n ih =>
  intro i t;show Tot (λk=>Jz i λq=>gV q t λv=>aW (i+1) λi'=>vE n i' t λl=>k (v::l));simp only[nY,dZ,aH];exact(ih (i+1) t).bind λl=>.ret _
theorem aBo(h:T O)(o:Q)(off n:Nat):Tot (nP h o off n) :=
 (kJ o h).bind λob=>(aBs ob).bind λm t=>(eM (Nat.ble (off+n) m) 47).bind (wa n off t)
theorem we:∀(l:List Q)(h:T O),Tot (yU l h)
 |[],h=>.ret h
 |q::l,h=>(kK _ q h).bind λh'=>we l h'
theorem ai(o:Q)(off:Nat)(vs:List V)(h:T O):Tot (Hv o off vs h):=by
 unfold Hv;refine(kJ o h).bind λob=>?_
 cases ob<;>first|exact .bad _|skip
 rename_i n t BT B6 ty ex;refine(aBp vs).bind λm=>(eM _ _).bind ((oH vs off t).bind λt'=>?_)
 cases Nat.ble B6 off
 ·exact(we BT h).bind λh'=>kK _ o h'
 ·exact kK _ o h
theorem ey(s:KK)(h:T O)(x y:V):Tot (eC s h x y):=by
 have hp:∀o a o' b,Tot (Ib h o a o' b):=λo a o' b=>by
  unfold Ib;cases o.beq o'
  ·exact(kJ _ h).bind λ_=>(kJ _ h).bind λ_=>(eM _ _).bind (.ret _)
  ·cases Nat.beq a b
   ·exact(kJ _ h).bind λ_=>(eM _ _).bind (.ret _)
   ·exact .ret _
 have hc:∀f u w,Tot (hU f u w):=λf u w=>by
  cases f<;>cases u<;>first|exact .bad _|skip
  all_goals (cases w<;>first|exact .bad _|exact .ret _|exact(eM _ _).bind (.ret _))
 have CI:∀fs us ws,Tot (gK fs us ws):=λfs=>by
  induction fs with
  |nil=>intro us ws;cases us<;>cases ws<;>first|exact .ret _|exact .bad _
  |cons f fs ih =>
   intro us ws;cases us<;>cases ws<;>first|exact .bad _|skip
   rename_i u us w ws;refine(hc f u w).bind λb=>?_
   cases b
   ·exact .ret _
   ·exact ih us ws
 cases s<;>cases x<;>first|exact .bad _|skip
 all_goals (cases y<;>first|exact .bad _|exact .ret _|exact(eM _ _).bind (.ret _)|exact hp _ _ _ _|exact CI _ _ _)
theorem uT(s:KK)(x:V):Tot0 (hY s x):=by
 cases s<;>first|exact .inl λ_=>rfl|skip
 rename_i fs;cases x<;>first|exact .inr ⟨_,λ_=>rfl⟩|skip
 rename_i cs;rcases eM (Nat.beq cs.length fs.length) 38 with h1|⟨n,h1⟩
 ·exact .inl λk=>by simp only[hY,cI];exact h1 k
 ·exact .inr ⟨n,λk=>by simp only[hY,cI];exact h1 k⟩
def TotU(Φ:Ku->AA):Prop:=(∃es i v,∀k,Φ k=k es i v)\/∃n,∀k,Φ k=.bad n
theorem TotU.bindW{Φ:Ku->AA}{Z:List (V×V)->Nat->V->Kw->AA}(h:TotU Φ)(hf:∀a b c,TotW (Z a b c)):TotW (λk=>Φ λa b c=>Z a b c k):=by
 rcases h with⟨a,b,c,h⟩|⟨n,h⟩
 ·rw[show(λk=>Φ λa b c=>Z a b c k)=Z a b c from funext λk=>h _];exact hf a b c
 ·exact .inr ⟨n,λk=>h _⟩
theorem og(s:KK)(h:T O)(x:V)(f:V->V)(z:V):∀(es:List (V×V))(i:Nat),TotU (mP s h x f z es i)
 |[],i=>.inl ⟨_,_,_,λ_=>rfl⟩
 |(y,u)::es,i=>by
  rcases ey s h x y with⟨b,hb⟩|⟨n,hn⟩
  ·cases b
   ·rcases og s h x f z es (i+1) with⟨a,b,c,h1⟩|⟨n,h1⟩
    ·exact .inl ⟨(y,u)::a,b,c,λk=>by simp only[mP,hb,aH,h1]⟩
    ·exact .inr ⟨n,λk=>by simp only[mP,hb,aH,h1]⟩
   ·exact .inl ⟨(x,f u)::es,i,u,λk=>by simp only[mP,hb]⟩
  ·exact .inr ⟨n,λk=>by simp only[mP,hn]⟩
theorem wi(v:V):∀(i:Nat)(es:List (V×V)),Tot (OO v i es)
 |i,[]=>by cases i<;>exact .bad _
 |0,(y,_)::es=>.ret _
 |i+1,e::es=>(wi v i es).bind λ_=>.ret _
theorem oe:∀(l n:Nat),Tot (MY l n)
 |0,n=>.ret _
 |l+1,n=>(cQ _).bind λ_=>(cQ _).bind λn'=>(oe l n').bind λ_=>.ret _
theorem uS(sz:Nat)(v:V)(h:T O):Tot2 (jL sz v h):=by
 have hl:∀o off len,Tot2 (λk:Nat->List V->AA=>match len with|0=>k 0 []|len=>nP h o off (len*sz) λl=>k len l):=λo off len=>by
  cases len with
  |zero=>exact .inl ⟨_,_,λ_=>rfl⟩
  |succ m =>
   rcases aBo h o off ((m+1)*sz) with⟨a,ha⟩|⟨n,hn⟩
   ·exact .inl ⟨m+1,a,λk=>ha _⟩
   ·exact .inr ⟨n,λk=>hn _⟩
 cases v<;>first|exact .inr ⟨_,λ_=>rfl⟩|exact .inl ⟨_,_,λ_=>rfl⟩|exact hl _ _ _|skip
 rename_i l n;rcases eM (Nat.beq sz 1) 62 with h1|⟨n',h1⟩
 ·rcases oe l n with⟨a,ha⟩|⟨n',hn⟩
  ·exact .inl ⟨l,a,λk=>by simp only[jL,h1,ha]⟩
  ·exact .inr ⟨n',λk=>by simp only[jL,h1,hn]⟩
 ·exact .inr ⟨n',λk=>h1 _⟩
theorem wc(ty sz len m:Nat)(old new:List V)(h:T O)(nx:Q):TotW (pY ty sz len m old new h nx) :=
 (eM _ _).bindW ((oH _ _ _).bindW λt=>(oH _ _ _).bindW λt'=>(cQ _).bindW λn=>(cQ _).bindW λl=>(kK _ _ _).bindW λh'=>(ah _).bindW λnx'=>.ret _ _ _)
theorem aMY(ty sz:Nat)(a:V)(m:Nat)(new:List V)(h:T O)(nx:Q):TotW (K4 ty sz a m new h nx):=by
 cases a<;>first|exact .bad _|skip
 ·cases m
  ·exact .ret _ _ _
  ·exact wc _ _ _ _ _ _ _ _
 ·rename_i o off len cap
  simp only[show K4 ty sz (.sl o off len cap) m new h nx=λk=>(match Nat.ble (len+m) cap with
   |true=>(match m with
    |0=>k (.sl o off len cap) h nx
    |m=>Hv o (off+len*sz) new h λh'=>aW (len+m) λl=>k (.sl o off l cap) h' nx)
   |false=>jL sz (.sl o off len cap) h λ_ old=>pY ty sz len m old new h nx k) from rfl]
  cases Nat.ble (len+m) cap
  ·exact(uS _ _ _).bindW λ_ old=>wc _ _ _ _ _ _ _ _
  ·cases m
   ·exact .ret _ _ _
   ·exact(ai _ _ _ _).bindW λh'=>(cQ _).bindW λl=>.ret _ _ _
 ·rename_i o off len z
  show TotW (λk=>gd (Nat.beq sz z) 63 _);refine(eM _ _).bindW (Z:=λk=>_) ?_;cases m
  ·exact .ret _ _ _
  ·refine(kJ _ _).bindW λob=>?_
   cases ob<;>first|exact .bad _|skip
   rename_i m n t BT B6 E5 ex;simp only;cases Nat.ble (off+(len+(m+1))*sz) n
   ·exact(eM _ _).bindW ((oH _ _ _).bindW λt'=>(cQ _).bindW λn'=>(cQ _).bindW λl=>(kK _ _ _).bindW λh'=>(kK _ _ _).bindW λMT=>(ah _).bindW λnx'=>.ret _ _ _)
   ·exact(ai _ _ _ _).bindW λh'=>(cQ _).bindW λl=>.ret _ _ _
theorem aGh:∀l:List V,Tot (Ol l)
 |[]=>.ret _
 |v::l=>by
  cases v<;>first|exact .bad _|skip
  rename_i kd n;cases kd<;>first|exact .bad _|skip
  cases n<;>first|exact .bad _|skip
  exact(eM _ _).bind ((aGh l).bind λn=>cQ _)
theorem aGg(v:V):Tot (mi v):=by cases v<;>first|exact .inl ⟨_,λ_=>rfl⟩|exact .inr ⟨_,λ_=>rfl⟩
theorem aM8(b:WB)(tm:T V)(h:T O)(nx:Q):TotW (wK b tm h nx):=by
 cases b
 ·exact(iA _ _).bindW λp=>(aPI p).bindW λo off=>(iA _ _).bindW λv=>(aMZ v).bindW λc=>(aBp c).bindW λm=>(eM _ _).bindW ((ai _ _ _ _).bindW λh'=>.ret _ _ _)
 ·refine(iA _ _).bindW λm=>(iA _ _).bindW λkv=>(iA _ _).bindW λv=>(uT _ kv).bindW ?_
  cases m<;>first|exact .bad _|skip
  exact(kJ _ _).bindW λob=>(aBq ob).bindW λes=>(og _ _ _ _ _ _ _).bindW λes' _ _=>(kK _ _ _).bindW λh'=>.ret _ _ _
 ·refine(iA _ _).bindW λm=>(iA _ _).bindW λkv=>(uT _ kv).bindW ?_
  cases m<;>first|exact .bad _|skip
  exact(kJ _ _).bindW λob=>(wg ob).bindW λes=>(og _ _ _ _ _ _ _).bindW λes' i u=>(kK _ _ _).bindW λh'=>.ret _ _ _
 ·refine(iA _ _).bindW λm=>(iA _ _).bindW λs=>(aPH s).bindW λi=>(iA _ _).bindW λv=>?_
  cases m<;>first|exact .bad _|skip
  exact(kJ _ _).bindW λob=>(wg ob).bindW λes=>(wi _ _ _).bindW λes'=>(kK _ _ _).bindW λh'=>.ret _ _ _
 ·exact(iA _ _).bindW λa=>(iA _ _).bindW λb=>(uS _ _ _).bindW λm new=>(eM _ _).bindW (aMY _ _ _ _ _ _ _)
 ·refine(iA _ _).bindW λa=>(iA _ _).bindW λb=>(aGg a).bindW λn=>(uS _ _ _).bindW λm new=>(eM _ _).bindW ?_
  cases a<;>first|exact .bad _|skip
  ·exact(ai _ _ _ _).bindW λh'=>.ret _ _ _
  ·exact(ai _ _ _ _).bindW λh'=>.ret _ _ _
 ·exact(iA _ _).bindW λv=>(YU v).bindW λl n=>(oe l n).bindW λcs=>(oH _ _ _).bindW λt=>(kK _ _ _).bindW λh'=>(ah _).bindW λnx'=>.ret _ _ _
 ·refine(iA _ _).bindW λv=>(iA _ _).bindW λw=>?_
  cases w<;>first|exact .bad _|skip
  rename_i kd n;cases kd<;>first|exact .bad _|skip
  cases n<;>first|exact .bad _|skip
  cases v<;>first|exact .bad _|skip
  ·exact(eM _ _).bindW (.ret _ _ _)
  ·refine(eM _ _).bindW ((kJ _ _).bindW λob=>?_)
   cases ob<;>first|exact .bad _|skip
   exact(eM _ _).bindW ((wa _ _ _).bindW λcs=>(aGh cs).bindW λn=>(kK _ _ _).bindW λh'=>.ret _ _ _)
theorem aGD{b:WB}{tm:T V}{h:T O}{nx:Q}{k:Kw}{r:V}(e:wK b tm h nx k=.ok r):∃v h' nx',k v h' nx'=.ok r/\∀k',wK b tm h nx k'=k' v h' nx':=by
 rcases aM8 b tm h nx with⟨v,h',nx',h1⟩|⟨n,h1⟩
 ·exact⟨v,h',nx',(h1 k).symm.trans e,h1⟩
 ·rw[h1] at e;cases e
theorem kL{x:X}{tm:T V}{k:V->AA}{r:V}(e:xK x tm k=.ok r):∃v,k v=.ok r/\∀k',xK x tm k'=k' v:=by
 rcases iA x tm with⟨v,h1⟩|⟨n,h1⟩
 ·exact⟨v,(h1 k).symm.trans e,h1⟩
 ·rw[h1] at e;cases e
theorem uW{xs:List X}{tm:T V}{k:List V->AA}{r:V}(e:H4 xs tm k=.ok r):∃v,k v=.ok r/\∀k',H4 xs tm k'=k' v:=by
 rcases aGj tm xs with⟨v,h1⟩|⟨n,h1⟩
 ·exact⟨v,(h1 k).symm.trans e,h1⟩
 ·rw[h1] at e;cases e
end
end Go.CM
end
