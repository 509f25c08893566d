import Derived.Test.YtdkkaldimefljaaGreatDoorX26
import Derived.Test.YtdkkaldimefljaaGreatDoorX14
set_option linter.all false
noncomputable section
namespace Go.CM
theorem gv0_eq (q : QR) (t : TQ V) (k : V → Res) : gv0 q t k = k (t.get Dft.z q) := rfl
theorem dv0_eq (q : QR) (v : V) (t : TQ V) (k : TQ V → Res) : dv0 q v t k = k (TQ.put Dft.z v q t) := rfl
theorem gv1_eq (q : QN QR) (t : N5 V (TQ V)) (k : V → Res) : gv1 q t k = k (N5.gt (TQ.get Dft.z) t q) := by
  obtain ⟨u, a, b, c, d⟩ := t
  cases q with
  | e => rfl
  | a q => exact gv0_eq q a k
  | b q => exact gv0_eq q b k
  | c q => exact gv0_eq q c k
  | d q => exact gv0_eq q d k
theorem dv1_eq (q : QN QR) (v : V) (t : N5 V (TQ V)) (k : N5 V (TQ V) → Res) : dv1 q v t k = k (N5.pt (TQ.put Dft.z v) v q t) := by
  obtain ⟨u, a, b, c, d⟩ := t
  cases q with
  | e => rfl
  | a q => exact dv0_eq q v a fun x => k ⟨u, x, b, c, d⟩
  | b q => exact dv0_eq q v b fun x => k ⟨u, a, x, c, d⟩
  | c q => exact dv0_eq q v c fun x => k ⟨u, a, b, x, d⟩
  | d q => exact dv0_eq q v d fun x => k ⟨u, a, b, c, x⟩
theorem gv2_eq (q : QN Q1) (t : N5 V (T1 V)) (k : V → Res) : gv2 q t k = k (N5.gt (g1 (α := V)) t q) := by
  obtain ⟨u, a, b, c, d⟩ := t
  cases q with
  | e => rfl
  | a q => exact gv1_eq q a k
  | b q => exact gv1_eq q b k
  | c q => exact gv1_eq q c k
  | d q => exact gv1_eq q d k
theorem dv2_eq (q : QN Q1) (v : V) (t : N5 V (T1 V)) (k : N5 V (T1 V) → Res) : dv2 q v t k = k (N5.pt (p1 v) v q t) := by
  obtain ⟨u, a, b, c, d⟩ := t
  cases q with
  | e => rfl
  | a q => exact dv1_eq q v a fun x => k ⟨u, x, b, c, d⟩
  | b q => exact dv1_eq q v b fun x => k ⟨u, a, x, c, d⟩
  | c q => exact dv1_eq q v c fun x => k ⟨u, a, b, x, d⟩
  | d q => exact dv1_eq q v d fun x => k ⟨u, a, b, c, x⟩
theorem gv3_eq (q : QN Q2) (t : N5 V (T2 V)) (k : V → Res) : gv3 q t k = k (N5.gt (g2 (α := V)) t q) := by
  obtain ⟨u, a, b, c, d⟩ := t
  cases q with
  | e => rfl
  | a q => exact gv2_eq q a k
  | b q => exact gv2_eq q b k
  | c q => exact gv2_eq q c k
  | d q => exact gv2_eq q d k
theorem dv3_eq (q : QN Q2) (v : V) (t : N5 V (T2 V)) (k : N5 V (T2 V) → Res) : dv3 q v t k = k (N5.pt (p2 v) v q t) := by
  obtain ⟨u, a, b, c, d⟩ := t
  cases q with
  | e => rfl
  | a q => exact dv2_eq q v a fun x => k ⟨u, x, b, c, d⟩
  | b q => exact dv2_eq q v b fun x => k ⟨u, a, x, c, d⟩
  | c q => exact dv2_eq q v c fun x => k ⟨u, a, b, x, d⟩
  | d q => exact dv2_eq q v d fun x => k ⟨u, a, b, c, x⟩
theorem gv4_eq (q : QN Q3) (t : N5 V (T3 V)) (k : V → Res) : gv4 q t k = k (N5.gt (g3 (α := V)) t q) := by
  obtain ⟨u, a, b, c, d⟩ := t
  cases q with
  | e => rfl
  | a q => exact gv3_eq q a k
  | b q => exact gv3_eq q b k
  | c q => exact gv3_eq q c k
  | d q => exact gv3_eq q d k
theorem dv4_eq (q : QN Q3) (v : V) (t : N5 V (T3 V)) (k : N5 V (T3 V) → Res) : dv4 q v t k = k (N5.pt (p3 v) v q t) := by
  obtain ⟨u, a, b, c, d⟩ := t
  cases q with
  | e => rfl
  | a q => exact dv3_eq q v a fun x => k ⟨u, x, b, c, d⟩
  | b q => exact dv3_eq q v b fun x => k ⟨u, a, x, c, d⟩
  | c q => exact dv3_eq q v c fun x => k ⟨u, a, b, x, d⟩
  | d q => exact dv3_eq q v d fun x => k ⟨u, a, b, c, x⟩
theorem gv5_eq (q : QN Q4) (t : N5 V (T4 V)) (k : V → Res) : gv5 q t k = k (N5.gt (g4 (α := V)) t q) := by
  obtain ⟨u, a, b, c, d⟩ := t
  cases q with
  | e => rfl
  | a q => exact gv4_eq q a k
  | b q => exact gv4_eq q b k
  | c q => exact gv4_eq q c k
  | d q => exact gv4_eq q d k
theorem dv5_eq (q : QN Q4) (v : V) (t : N5 V (T4 V)) (k : N5 V (T4 V) → Res) : dv5 q v t k = k (N5.pt (p4 v) v q t) := by
  obtain ⟨u, a, b, c, d⟩ := t
  cases q with
  | e => rfl
  | a q => exact dv4_eq q v a fun x => k ⟨u, x, b, c, d⟩
  | b q => exact dv4_eq q v b fun x => k ⟨u, a, x, c, d⟩
  | c q => exact dv4_eq q v c fun x => k ⟨u, a, b, x, d⟩
  | d q => exact dv4_eq q v d fun x => k ⟨u, a, b, c, x⟩
theorem gv6_eq (q : QN Q5) (t : N5 V (T5 V)) (k : V → Res) : gv6 q t k = k (N5.gt (g5 (α := V)) t q) := by
  obtain ⟨u, a, b, c, d⟩ := t
  cases q with
  | e => rfl
  | a q => exact gv5_eq q a k
  | b q => exact gv5_eq q b k
  | c q => exact gv5_eq q c k
  | d q => exact gv5_eq q d k
theorem dv6_eq (q : QN Q5) (v : V) (t : N5 V (T5 V)) (k : N5 V (T5 V) → Res) : dv6 q v t k = k (N5.pt (p5 v) v q t) := by
  obtain ⟨u, a, b, c, d⟩ := t
  cases q with
  | e => rfl
  | a q => exact dv5_eq q v a fun x => k ⟨u, x, b, c, d⟩
  | b q => exact dv5_eq q v b fun x => k ⟨u, a, x, c, d⟩
  | c q => exact dv5_eq q v c fun x => k ⟨u, a, b, x, d⟩
  | d q => exact dv5_eq q v d fun x => k ⟨u, a, b, c, x⟩
theorem gv7_eq (q : QN Q6) (t : N5 V (T6 V)) (k : V → Res) : gv7 q t k = k (N5.gt (g6 (α := V)) t q) := by
  obtain ⟨u, a, b, c, d⟩ := t
  cases q with
  | e => rfl
  | a q => exact gv6_eq q a k
  | b q => exact gv6_eq q b k
  | c q => exact gv6_eq q c k
  | d q => exact gv6_eq q d k
theorem dv7_eq (q : QN Q6) (v : V) (t : N5 V (T6 V)) (k : N5 V (T6 V) → Res) : dv7 q v t k = k (N5.pt (p6 v) v q t) := by
  obtain ⟨u, a, b, c, d⟩ := t
  cases q with
  | e => rfl
  | a q => exact dv6_eq q v a fun x => k ⟨u, x, b, c, d⟩
  | b q => exact dv6_eq q v b fun x => k ⟨u, a, x, c, d⟩
  | c q => exact dv6_eq q v c fun x => k ⟨u, a, b, x, d⟩
  | d q => exact dv6_eq q v d fun x => k ⟨u, a, b, c, x⟩
theorem gv8_eq (q : QN Q7) (t : N5 V (T7 V)) (k : V → Res) : gv8 q t k = k (N5.gt (g7 (α := V)) t q) := by
  obtain ⟨u, a, b, c, d⟩ := t
  cases q with
  | e => rfl
  | a q => exact gv7_eq q a k
  | b q => exact gv7_eq q b k
  | c q => exact gv7_eq q c k
  | d q => exact gv7_eq q d k
theorem dv8_eq (q : QN Q7) (v : V) (t : N5 V (T7 V)) (k : N5 V (T7 V) → Res) : dv8 q v t k = k (N5.pt (p7 v) v q t) := by
  obtain ⟨u, a, b, c, d⟩ := t
  cases q with
  | e => rfl
  | a q => exact dv7_eq q v a fun x => k ⟨u, x, b, c, d⟩
  | b q => exact dv7_eq q v b fun x => k ⟨u, a, x, c, d⟩
  | c q => exact dv7_eq q v c fun x => k ⟨u, a, b, x, d⟩
  | d q => exact dv7_eq q v d fun x => k ⟨u, a, b, c, x⟩
theorem gv9_eq (q : QN Q8) (t : N5 V (T8 V)) (k : V → Res) : gv9 q t k = k (N5.gt (g8 (α := V)) t q) := by
  obtain ⟨u, a, b, c, d⟩ := t
  cases q with
  | e => rfl
  | a q => exact gv8_eq q a k
  | b q => exact gv8_eq q b k
  | c q => exact gv8_eq q c k
  | d q => exact gv8_eq q d k
theorem dv9_eq (q : QN Q8) (v : V) (t : N5 V (T8 V)) (k : N5 V (T8 V) → Res) : dv9 q v t k = k (N5.pt (p8 v) v q t) := by
  obtain ⟨u, a, b, c, d⟩ := t
  cases q with
  | e => rfl
  | a q => exact dv8_eq q v a fun x => k ⟨u, x, b, c, d⟩
  | b q => exact dv8_eq q v b fun x => k ⟨u, a, x, c, d⟩
  | c q => exact dv8_eq q v c fun x => k ⟨u, a, b, x, d⟩
  | d q => exact dv8_eq q v d fun x => k ⟨u, a, b, c, x⟩
theorem gv10_eq (q : QN Q9) (t : N5 V (T9 V)) (k : V → Res) : gv10 q t k = k (N5.gt (g9 (α := V)) t q) := by
  obtain ⟨u, a, b, c, d⟩ := t
  cases q with
  | e => rfl
  | a q => exact gv9_eq q a k
  | b q => exact gv9_eq q b k
  | c q => exact gv9_eq q c k
  | d q => exact gv9_eq q d k
theorem dv10_eq (q : QN Q9) (v : V) (t : N5 V (T9 V)) (k : N5 V (T9 V) → Res) : dv10 q v t k = k (N5.pt (p9 v) v q t) := by
  obtain ⟨u, a, b, c, d⟩ := t
  cases q with
  | e => rfl
  | a q => exact dv9_eq q v a fun x => k ⟨u, x, b, c, d⟩
  | b q => exact dv9_eq q v b fun x => k ⟨u, a, x, c, d⟩
  | c q => exact dv9_eq q v c fun x => k ⟨u, a, b, x, d⟩
  | d q => exact dv9_eq q v d fun x => k ⟨u, a, b, c, x⟩
theorem gvT_eq (q : Q) (t : T V) (k : V → Res) : gvT q t k = gV q t k := gv10_eq q t k
theorem dvT_eq (q : Q) (v : V) (t : T V) (k : T V → Res) : dvT q v t k = pV v q t k := dv10_eq q v t k
theorem go0_eq (q : QR) (t : TQ O) (k : O → Res) : go0 q t k = k (t.get Dft.z q) := rfl
theorem do0_eq (q : QR) (v : O) (t : TQ O) (k : TQ O → Res) : do0 q v t k = k (TQ.put Dft.z v q t) := rfl
theorem go1_eq (q : QN QR) (t : N5 O (TQ O)) (k : O → Res) : go1 q t k = k (N5.gt (TQ.get Dft.z) t q) := by
  obtain ⟨u, a, b, c, d⟩ := t
  cases q with
  | e => rfl
  | a q => exact go0_eq q a k
  | b q => exact go0_eq q b k
  | c q => exact go0_eq q c k
  | d q => exact go0_eq q d k
theorem do1_eq (q : QN QR) (v : O) (t : N5 O (TQ O)) (k : N5 O (TQ O) → Res) : do1 q v t k = k (N5.pt (TQ.put Dft.z v) v q t) := by
  obtain ⟨u, a, b, c, d⟩ := t
  cases q with
  | e => rfl
  | a q => exact do0_eq q v a fun x => k ⟨u, x, b, c, d⟩
  | b q => exact do0_eq q v b fun x => k ⟨u, a, x, c, d⟩
  | c q => exact do0_eq q v c fun x => k ⟨u, a, b, x, d⟩
  | d q => exact do0_eq q v d fun x => k ⟨u, a, b, c, x⟩
theorem go2_eq (q : QN Q1) (t : N5 O (T1 O)) (k : O → Res) : go2 q t k = k (N5.gt (g1 (α := O)) t q) := by
  obtain ⟨u, a, b, c, d⟩ := t
  cases q with
  | e => rfl
  | a q => exact go1_eq q a k
  | b q => exact go1_eq q b k
  | c q => exact go1_eq q c k
  | d q => exact go1_eq q d k
theorem do2_eq (q : QN Q1) (v : O) (t : N5 O (T1 O)) (k : N5 O (T1 O) → Res) : do2 q v t k = k (N5.pt (p1 v) v q t) := by
  obtain ⟨u, a, b, c, d⟩ := t
  cases q with
  | e => rfl
  | a q => exact do1_eq q v a fun x => k ⟨u, x, b, c, d⟩
  | b q => exact do1_eq q v b fun x => k ⟨u, a, x, c, d⟩
  | c q => exact do1_eq q v c fun x => k ⟨u, a, b, x, d⟩
  | d q => exact do1_eq q v d fun x => k ⟨u, a, b, c, x⟩
theorem go3_eq (q : QN Q2) (t : N5 O (T2 O)) (k : O → Res) : go3 q t k = k (N5.gt (g2 (α := O)) t q) := by
  obtain ⟨u, a, b, c, d⟩ := t
  cases q with
  | e => rfl
  | a q => exact go2_eq q a k
  | b q => exact go2_eq q b k
  | c q => exact go2_eq q c k
  | d q => exact go2_eq q d k
theorem do3_eq (q : QN Q2) (v : O) (t : N5 O (T2 O)) (k : N5 O (T2 O) → Res) : do3 q v t k = k (N5.pt (p2 v) v q t) := by
  obtain ⟨u, a, b, c, d⟩ := t
  cases q with
  | e => rfl
  | a q => exact do2_eq q v a fun x => k ⟨u, x, b, c, d⟩
  | b q => exact do2_eq q v b fun x => k ⟨u, a, x, c, d⟩
  | c q => exact do2_eq q v c fun x => k ⟨u, a, b, x, d⟩
  | d q => exact do2_eq q v d fun x => k ⟨u, a, b, c, x⟩
theorem go4_eq (q : QN Q3) (t : N5 O (T3 O)) (k : O → Res) : go4 q t k = k (N5.gt (g3 (α := O)) t q) := by
  obtain ⟨u, a, b, c, d⟩ := t
  cases q with
  | e => rfl
  | a q => exact go3_eq q a k
  | b q => exact go3_eq q b k
  | c q => exact go3_eq q c k
  | d q => exact go3_eq q d k
theorem do4_eq (q : QN Q3) (v : O) (t : N5 O (T3 O)) (k : N5 O (T3 O) → Res) : do4 q v t k = k (N5.pt (p3 v) v q t) := by
  obtain ⟨u, a, b, c, d⟩ := t
  cases q with
  | e => rfl
  | a q => exact do3_eq q v a fun x => k ⟨u, x, b, c, d⟩
  | b q => exact do3_eq q v b fun x => k ⟨u, a, x, c, d⟩
  | c q => exact do3_eq q v c fun x => k ⟨u, a, b, x, d⟩
  | d q => exact do3_eq q v d fun x => k ⟨u, a, b, c, x⟩
theorem go5_eq (q : QN Q4) (t : N5 O (T4 O)) (k : O → Res) : go5 q t k = k (N5.gt (g4 (α := O)) t q) := by
  obtain ⟨u, a, b, c, d⟩ := t
  cases q with
  | e => rfl
  | a q => exact go4_eq q a k
  | b q => exact go4_eq q b k
  | c q => exact go4_eq q c k
  | d q => exact go4_eq q d k
theorem do5_eq (q : QN Q4) (v : O) (t : N5 O (T4 O)) (k : N5 O (T4 O) → Res) : do5 q v t k = k (N5.pt (p4 v) v q t) := by
  obtain ⟨u, a, b, c, d⟩ := t
  cases q with
  | e => rfl
  | a q => exact do4_eq q v a fun x => k ⟨u, x, b, c, d⟩
  | b q => exact do4_eq q v b fun x => k ⟨u, a, x, c, d⟩
  | c q => exact do4_eq q v c fun x => k ⟨u, a, b, x, d⟩
  | d q => exact do4_eq q v d fun x => k ⟨u, a, b, c, x⟩
theorem go6_eq (q : QN Q5) (t : N5 O (T5 O)) (k : O → Res) : go6 q t k = k (N5.gt (g5 (α := O)) t q) := by
  obtain ⟨u, a, b, c, d⟩ := t
  cases q with
  | e => rfl
  | a q => exact go5_eq q a k
  | b q => exact go5_eq q b k
  | c q => exact go5_eq q c k
  | d q => exact go5_eq q d k
theorem do6_eq (q : QN Q5) (v : O) (t : N5 O (T5 O)) (k : N5 O (T5 O) → Res) : do6 q v t k = k (N5.pt (p5 v) v q t) := by
  obtain ⟨u, a, b, c, d⟩ := t
  cases q with
  | e => rfl
  | a q => exact do5_eq q v a fun x => k ⟨u, x, b, c, d⟩
  | b q => exact do5_eq q v b fun x => k ⟨u, a, x, c, d⟩
  | c q => exact do5_eq q v c fun x => k ⟨u, a, b, x, d⟩
  | d q => exact do5_eq q v d fun x => k ⟨u, a, b, c, x⟩
theorem go7_eq (q : QN Q6) (t : N5 O (T6 O)) (k : O → Res) : go7 q t k = k (N5.gt (g6 (α := O)) t q) := by
  obtain ⟨u, a, b, c, d⟩ := t
  cases q with
  | e => rfl
  | a q => exact go6_eq q a k
  | b q => exact go6_eq q b k
  | c q => exact go6_eq q c k
  | d q => exact go6_eq q d k
theorem do7_eq (q : QN Q6) (v : O) (t : N5 O (T6 O)) (k : N5 O (T6 O) → Res) : do7 q v t k = k (N5.pt (p6 v) v q t) := by
  obtain ⟨u, a, b, c, d⟩ := t
  cases q with
  | e => rfl
  | a q => exact do6_eq q v a fun x => k ⟨u, x, b, c, d⟩
  | b q => exact do6_eq q v b fun x => k ⟨u, a, x, c, d⟩
  | c q => exact do6_eq q v c fun x => k ⟨u, a, b, x, d⟩
  | d q => exact do6_eq q v d fun x => k ⟨u, a, b, c, x⟩
theorem go8_eq (q : QN Q7) (t : N5 O (T7 O)) (k : O → Res) : go8 q t k = k (N5.gt (g7 (α := O)) t q) := by
  obtain ⟨u, a, b, c, d⟩ := t
  cases q with
  | e => rfl
  | a q => exact go7_eq q a k
  | b q => exact go7_eq q b k
  | c q => exact go7_eq q c k
  | d q => exact go7_eq q d k
theorem do8_eq (q : QN Q7) (v : O) (t : N5 O (T7 O)) (k : N5 O (T7 O) → Res) : do8 q v t k = k (N5.pt (p7 v) v q t) := by
  obtain ⟨u, a, b, c, d⟩ := t
  cases q with
  | e => rfl
  | a q => exact do7_eq q v a fun x => k ⟨u, x, b, c, d⟩
  | b q => exact do7_eq q v b fun x => k ⟨u, a, x, c, d⟩
  | c q => exact do7_eq q v c fun x => k ⟨u, a, b, x, d⟩
  | d q => exact do7_eq q v d fun x => k ⟨u, a, b, c, x⟩
theorem go9_eq (q : QN Q8) (t : N5 O (T8 O)) (k : O → Res) : go9 q t k = k (N5.gt (g8 (α := O)) t q) := by
  obtain ⟨u, a, b, c, d⟩ := t
  cases q with
  | e => rfl
  | a q => exact go8_eq q a k
  | b q => exact go8_eq q b k
  | c q => exact go8_eq q c k
  | d q => exact go8_eq q d k
theorem do9_eq (q : QN Q8) (v : O) (t : N5 O (T8 O)) (k : N5 O (T8 O) → Res) : do9 q v t k = k (N5.pt (p8 v) v q t) := by
  obtain ⟨u, a, b, c, d⟩ := t
  cases q with
  | e => rfl
  | a q => exact do8_eq q v a fun x => k ⟨u, x, b, c, d⟩
  | b q => exact do8_eq q v b fun x => k ⟨u, a, x, c, d⟩
  | c q => exact do8_eq q v c fun x => k ⟨u, a, b, x, d⟩
  | d q => exact do8_eq q v d fun x => k ⟨u, a, b, c, x⟩
theorem go10_eq (q : QN Q9) (t : N5 O (T9 O)) (k : O → Res) : go10 q t k = k (N5.gt (g9 (α := O)) t q) := by
  obtain ⟨u, a, b, c, d⟩ := t
  cases q with
  | e => rfl
  | a q => exact go9_eq q a k
  | b q => exact go9_eq q b k
  | c q => exact go9_eq q c k
  | d q => exact go9_eq q d k
theorem do10_eq (q : QN Q9) (v : O) (t : N5 O (T9 O)) (k : N5 O (T9 O) → Res) : do10 q v t k = k (N5.pt (p9 v) v q t) := by
  obtain ⟨u, a, b, c, d⟩ := t
  cases q with
  | e => rfl
  | a q => exact do9_eq q v a fun x => k ⟨u, x, b, c, d⟩
  | b q => exact do9_eq q v b fun x => k ⟨u, a, x, c, d⟩
  | c q => exact do9_eq q v c fun x => k ⟨u, a, b, x, d⟩
  | d q => exact do9_eq q v d fun x => k ⟨u, a, b, c, x⟩
theorem goT_eq (q : Q) (t : T O) (k : O → Res) : goT q t k = gO q t k := go10_eq q t k
theorem doT_eq (q : Q) (v : O) (t : T O) (k : T O → Res) : doT q v t k = pO v q t k := do10_eq q v t k
theorem sq0_eq (q : QR) (k : QR → Res) : sq0 q k = k q.succ := rfl
theorem bq0F_eq (p q : QR) : bq0F p q = p.beq q := rfl
theorem sq1_eq (q : QN QR) (k : QN QR → Res) : sq1 q k = k (QN.sc QR.succ QR.e q) := by
  cases q with
  | e => rfl
  | a q => rfl
  | b q => rfl
  | c q => rfl
  | d q => exact sq0_eq q fun p => k (.a p)
theorem bq1F_eq (p q : QN QR) : bq1F p q = QN.bq QR.beq p q := by
  cases p <;> cases q <;> first | rfl | exact bq0F_eq _ _
theorem sq2_eq (q : QN Q1) (k : QN Q1 → Res) : sq2 q k = k (QN.sc sc1 (QN.e (α := QR)) q) := by
  cases q with
  | e => rfl
  | a q => rfl
  | b q => rfl
  | c q => rfl
  | d q => exact sq1_eq q fun p => k (.a p)
theorem bq2F_eq (p q : QN Q1) : bq2F p q = QN.bq bq1 p q := by
  cases p <;> cases q <;> first | rfl | exact bq1F_eq _ _
theorem sq3_eq (q : QN Q2) (k : QN Q2 → Res) : sq3 q k = k (QN.sc sc2 (QN.e (α := Q1)) q) := by
  cases q with
  | e => rfl
  | a q => rfl
  | b q => rfl
  | c q => rfl
  | d q => exact sq2_eq q fun p => k (.a p)
theorem bq3F_eq (p q : QN Q2) : bq3F p q = QN.bq bq2 p q := by
  cases p <;> cases q <;> first | rfl | exact bq2F_eq _ _
theorem sq4_eq (q : QN Q3) (k : QN Q3 → Res) : sq4 q k = k (QN.sc sc3 (QN.e (α := Q2)) q) := by
  cases q with
  | e => rfl
  | a q => rfl
  | b q => rfl
  | c q => rfl
  | d q => exact sq3_eq q fun p => k (.a p)
theorem bq4F_eq (p q : QN Q3) : bq4F p q = QN.bq bq3 p q := by
  cases p <;> cases q <;> first | rfl | exact bq3F_eq _ _
theorem sq5_eq (q : QN Q4) (k : QN Q4 → Res) : sq5 q k = k (QN.sc sc4 (QN.e (α := Q3)) q) := by
  cases q with
  | e => rfl
  | a q => rfl
  | b q => rfl
  | c q => rfl
  | d q => exact sq4_eq q fun p => k (.a p)
theorem bq5F_eq (p q : QN Q4) : bq5F p q = QN.bq bq4 p q := by
  cases p <;> cases q <;> first | rfl | exact bq4F_eq _ _
theorem sq6_eq (q : QN Q5) (k : QN Q5 → Res) : sq6 q k = k (QN.sc sc5 (QN.e (α := Q4)) q) := by
  cases q with
  | e => rfl
  | a q => rfl
  | b q => rfl
  | c q => rfl
  | d q => exact sq5_eq q fun p => k (.a p)
theorem bq6F_eq (p q : QN Q5) : bq6F p q = QN.bq bq5 p q := by
  cases p <;> cases q <;> first | rfl | exact bq5F_eq _ _
theorem sq7_eq (q : QN Q6) (k : QN Q6 → Res) : sq7 q k = k (QN.sc sc6 (QN.e (α := Q5)) q) := by
  cases q with
  | e => rfl
  | a q => rfl
  | b q => rfl
  | c q => rfl
  | d q => exact sq6_eq q fun p => k (.a p)
theorem bq7F_eq (p q : QN Q6) : bq7F p q = QN.bq bq6 p q := by
  cases p <;> cases q <;> first | rfl | exact bq6F_eq _ _
theorem sq8_eq (q : QN Q7) (k : QN Q7 → Res) : sq8 q k = k (QN.sc sc7 (QN.e (α := Q6)) q) := by
  cases q with
  | e => rfl
  | a q => rfl
  | b q => rfl
  | c q => rfl
  | d q => exact sq7_eq q fun p => k (.a p)
theorem bq8F_eq (p q : QN Q7) : bq8F p q = QN.bq bq7 p q := by
  cases p <;> cases q <;> first | rfl | exact bq7F_eq _ _
theorem sq9_eq (q : QN Q8) (k : QN Q8 → Res) : sq9 q k = k (QN.sc sc8 (QN.e (α := Q7)) q) := by
  cases q with
  | e => rfl
  | a q => rfl
  | b q => rfl
  | c q => rfl
  | d q => exact sq8_eq q fun p => k (.a p)
theorem bq9F_eq (p q : QN Q8) : bq9F p q = QN.bq bq8 p q := by
  cases p <;> cases q <;> first | rfl | exact bq8F_eq _ _
theorem sq10_eq (q : QN Q9) (k : QN Q9 → Res) : sq10 q k = k (QN.sc sc9 (QN.e (α := Q8)) q) := by
  cases q with
  | e => rfl
  | a q => rfl
  | b q => rfl
  | c q => rfl
  | d q => exact sq9_eq q fun p => k (.a p)
theorem bq10F_eq (p q : QN Q9) : bq10F p q = QN.bq bq9 p q := by
  cases p <;> cases q <;> first | rfl | exact bq9F_eq _ _
theorem sqT_eq (q : Q) (k : Q → Res) : sqT q k = succK q k := sq10_eq q k
theorem bqF_eq (p q : Q) : bq10F p q = p.beq q := bq10F_eq p q
end Go.CM
end
noncomputable section
namespace Go.CM
theorem fN_eq (n : Nat) (k : Nat → Res) : fN n k = k n := by cases n <;> rfl
theorem gdF_eq (b : Bool) (n : Nat) (k : Res) : gdF b n k = gd b n k := by cases b <;> rfl
theorem ifF_eq (b : Bool) (x y : Res) : ifF b x y = match b with | true => x | false => y := by cases b <;> rfl
theorem andF_eq (a b : Bool) : andF a b = (a && b) := by cases a <;> rfl
theorem notF_eq (a : Bool) : notF a = !a := by cases a <;> rfl
theorem beqF_eq (a b : Bool) : beqF a b = (a == b) := by cases a <;> cases b <;> rfl
theorem bF_eq (b : Bool) (k : V → Res) : bF b k = bK b k := by cases b <;> rfl
theorem nbF_eq (n b : Bool) (k : V → Res) : nbF n b k = bK (n != b) k := by cases n <;> cases b <;> rfl
theorem ikNF_eq (k : IntKind) : ikNF k = ikN k := by cases k <;> rfl
theorem ikMF_eq (k : IntKind) : ikMF k = ikM k := by cases k <;> rfl
theorem powF_eq (l : Nat) : powF l = pow256 l := rfl
theorem fI_eq (n : Int) (k : Int → Res) : fI n k = k n := by cases n <;> simp only [fI, fN_eq]
theorem iN_eq (n : Int) (k : Nat → Res) : iN n k = match n with | .ofNat m => k m | .negSucc _ => .bad 5 := by cases n <;> rfl
theorem wrapI_eq (kd : IntKind) (n : Int) (k : V → Res) : wrapI kd n k = k (.int kd (kd.wrap n)) := by simp only [wrapI, fI_eq, wrapS]
theorem wrapN_eq (m : Nat) (kd : IntKind) (k : V → Res) : wrapN m kd k = match Nat.ble m (ikM kd) with | true => k (.int kd (.ofNat m)) | false => k (.int kd (kd.wrap (.ofNat m))) := by
  unfold wrapN
  rw [ikMF_eq]
  cases Nat.ble m (ikM kd)
  · exact wrapI_eq kd _ k
  · rfl
theorem wrapF_eq (n : Int) (kd : IntKind) (k : V → Res) : wrapF n kd k = wrapK kd n fun n => k (.int kd n) := by
  cases n with
  | ofNat m =>
    show fN m (fun m => wrapN m kd k) = wrapK kd (.ofNat m) fun n => k (.int kd n)
    rw [fN_eq, wrapN_eq]
    simp only [wrapK, forceN_eq, forceI_eq]
    cases Nat.ble m (ikM kd) <;> rfl
  | negSucc m =>
    show wrapI kd (.negSucc m) k = wrapK kd (.negSucc m) fun n => k (.int kd n)
    rw [wrapI_eq]
    simp only [wrapK, forceI_eq]
theorem addF_eq (x y : Int) : addF x y = addI x y := by cases x <;> cases y <;> rfl
theorem subF_eq (x y : Int) : subF x y = subI x y := by
  cases x with
  | negSucc a => cases y <;> rfl
  | ofNat a =>
    cases y with
    | negSucc b => rfl
    | ofNat b =>
      show @Bool.rec (fun _ => Int) _ _ (Nat.ble b a) = subI (.ofNat a) (.ofNat b)
      simp only [subI]
      cases Nat.ble b a <;> rfl
theorem leF_eq (x y : Int) : leF x y = leI x y := by cases x <;> cases y <;> rfl
theorem eqIF_eq (x y : Int) : eqIF x y = eqI x y := by cases x <;> cases y <;> rfl
theorem binIF_eq (op : BinOp) (kd : IntKind) (x y : Int) (k : V → Res) : binIF op kd x y k = binI op kd x y k := by
  cases op
  case add => show wrapF (addF x y) kd k = _; rw [wrapF_eq, addF_eq]; rfl
  case sub => show wrapF (subF x y) kd k = _; rw [wrapF_eq, subF_eq]; rfl
  case eql => show bF (eqIF x y) k = _; rw [bF_eq, eqIF_eq]; rfl
  case neq => show bF (notF (eqIF x y)) k = _; rw [bF_eq, notF_eq, eqIF_eq]; rfl
  case lss => show bF (notF (leF y x)) k = _; rw [bF_eq, notF_eq, leF_eq]; rfl
  case leq => show bF (leF x y) k = _; rw [bF_eq, leF_eq]; rfl
  case gtr => show bF (notF (leF x y)) k = _; rw [bF_eq, notF_eq, leF_eq]; rfl
  case geq => show bF (leF y x) k = _; rw [bF_eq, leF_eq]; rfl
  all_goals rfl
theorem binSF_eq (op : BinOp) (l n m j : Nat) (k : V → Res) : binSF op l n m j k = binS op l n m j k := by
  cases op
  case add => show catF l n m j k = _; simp only [catF, binS, gdF_eq, fN_eq, forceN_eq, powF_eq]; rfl
  case eql => show bF (andF (Nat.beq l m) (Nat.beq n j)) k = _; rw [bF_eq, andF_eq]; rfl
  case neq => show bF (notF (andF (Nat.beq l m) (Nat.beq n j))) k = _; rw [bF_eq, notF_eq, andF_eq]; rfl
  all_goals rfl
theorem lenF_eq {α : Type} (l : List α) : ∀ k : Nat → Res, lenF l k = lenK l k := by
  induction l with
  | nil => intro k; rfl
  | cons x l ih =>
    intro k
    show lenF l (fun n => fN (Nat.succ n) k) = _
    rw [ih, lenK_eq, lenK_eq, fN_eq]; rfl
theorem appF_eq (l : List V) : ∀ (m : List V) (k : List V → Res), appF l m k = k (l ++ m) := by
  induction l with
  | nil => intro m k; rfl
  | cons v l ih => intro m k; exact ih m fun l' => k (v :: l')
theorem app3_eq (fs args caps : List V) (k : List V → Res) : app3 fs args caps k = k (fs ++ (args ++ caps)) := by
  cases caps with
  | nil =>
    cases fs with
    | nil => simp [app3]
    | cons f fs =>
      show appF (f :: fs) args k = _
      rw [appF_eq, List.append_nil]
  | cons c cs =>
    show appF args (c :: cs) (fun l => appF fs l k) = _
    rw [appF_eq, appF_eq]
theorem rowF_eq (o : O) (k : Nat → T V → Res) : rowF o k = rowO o k := by cases o <;> rfl
theorem loneF_eq (o : O) : loneF o = loneO o := by cases o <;> rfl
theorem mapF_eq (o : O) (k : List (V × V) → Res) : mapF o k = mapO o k := by cases o <;> rfl
theorem mapEF_eq (o : O) (k : List (V × V) → Res) : mapEF o k = mapE o k := by cases o <;> rfl
theorem loopF_eq (o : O) (k : Lk) : loopF o k = loopO o k := by
  cases o <;> rfl
theorem mapSet_eq (o : O) (f : List (V × V) → (List (V × V) → Res) → Res) (k : O → Res) (hf : ∀ es g g', (∀ es', g es' = g' es') → f es g = f es g') : mapF o (fun es => f es fun es' => setMF o es' k) = mapO o (fun es => f es fun es' => k (setM o es')) := by
  cases o <;> try rfl
theorem eqPF_eq (h : T O) (o : Q) (off : Nat) (o' : Q) (off' : Nat) (k : Bool → Res) : eqPF h o off o' off' k = eqP h o off o' off' k := by
  unfold eqPF eqP
  rw [bqF_eq]
  cases o.beq o'
  · simp only [goT_eq, gdF_eq, andF_eq, loneF_eq]
  · show @Bool.rec (fun _ => T O → Q → (Bool → Res) → Res) _ _ (Nat.beq off off') h o k = _
    cases Nat.beq off off'
    · simp only [goT_eq, gdF_eq, loneF_eq]
    · rfl
theorem ldF_eq (h : T O) (o : Q) (off : Nat) (k : V → Res) : ldF h o off k = ldK h o off k := by
  simp only [ldF, ldK, goT_eq, rowF_eq, gdF_eq, gvT_eq, qnK_eq]; rfl
theorem getsF_eq (n : Nat) : ∀ (i : Nat) (t : T V) (k : List V → Res), getsF n i t k = getsK n i t k := by
  induction n with
  | zero => intro i t k; rfl
  | succ n ih =>
    intro i t k
    show gvT (qn i) t (fun v => getsF n (Nat.succ i) t fun l => k (v :: l)) = qnK i fun q => gV q t fun v => forceN (i + 1) fun i' => getsK n i' t fun l => k (v :: l)
    simp only [gvT_eq, ih, qnK_eq, forceN_eq]
theorem ldsF_eq (h : T O) (o : Q) (off n : Nat) (k : List V → Res) : ldsF h o off n k = ldsK h o off n k := by
  simp only [ldsF, ldsK, goT_eq, rowF_eq, gdF_eq, getsF_eq]; rfl
theorem putsF_eq (vs : List V) : ∀ (i : Nat) (t : T V) (k : T V → Res), putsF vs i t k = putsK vs i t k := by
  induction vs with
  | nil => intro i t k; rfl
  | cons v vs ih =>
    intro i t k
    show dvT (qn i) v t (fun t' => putsF vs (Nat.succ i) t' k) = qnK i fun q => pV v q t fun t' => forceN (i + 1) fun i' => putsK vs i' t' k
    simp only [dvT_eq, ih, qnK_eq, forceN_eq]
theorem argsF_eq' (vs : List V) : ∀ (i : Nat) (t : T V) (k : T V → Res), argsF vs i t k = k (putsL vs i t) := by
  induction vs with
  | nil => intro i t k; rfl
  | cons v vs ih =>
    intro i t k
    show dvT (qn i) v t (fun t' => argsF vs (Nat.succ i) t' k) = _
    simp only [dvT_eq, ih, pV_eq]; rfl
theorem takeF_eq (l : List V) : ∀ (n : Nat) (k : List V → Res), takeF l n k = takeK n l k := by
  induction l with
  | nil => intro n k; cases n <;> rfl
  | cons v l ih =>
    intro n k
    cases n with
    | zero => rfl
    | succ n => exact ih n fun l' => k (v :: l')
theorem partF_eq (l : List V) : ∀ (off n : Nat) (k : List V → Res), partF l off n k = partK off n l k := by
  induction l with
  | nil =>
    intro off n k
    cases off with
    | zero => exact takeF_eq [] n k
    | succ off => rfl
  | cons v l ih =>
    intro off n k
    cases off with
    | zero => exact takeF_eq (v :: l) n k
    | succ off => exact ih off n k
theorem nthF_eq (l : List V) : ∀ (n : Nat) (k : V → Res), nthF l n k = nthK l n k := by
  induction l with
  | nil => intro n k; rfl
  | cons v l ih =>
    intro n k
    cases n with
    | zero => rfl
    | succ n => exact ih n k
theorem fdF_eq (agg : Bool) (off n : Nat) (l : List V) (k : V → Res) : fdF agg off n l k = fdK agg off n l k := by
  cases agg
  · exact nthF_eq l off k
  · exact partF_eq l off n fun l' => k (.agg l')
theorem overF_eq (l : List V) : ∀ (off : Nat) (new : List V) (k : List V → Res), overF l off new k = overK l off new k := by
  induction l with
  | nil =>
    intro off new k
    cases off with
    | zero => cases new <;> rfl
    | succ off => rfl
  | cons x l ih =>
    intro off new k
    cases off with
    | zero =>
      cases new with
      | nil => rfl
      | cons v vs => exact ih 0 vs fun l' => k (v :: l')
    | succ off => exact ih off new fun l' => k (x :: l')
theorem elF_eq (c : Nat) (o : Q) (off len sz i : Nat) (k : V → Res) : elF c o off len sz i k = gd (Nat.blt i len) c (forceN (off + i * sz) fun a => k (.ptr o a)) := by
  simp only [elF, gdF_eq, fN_eq, forceN_eq]; rfl
theorem sdF_eq (len : Nat) (o : Q) (off : Nat) (k : V → Res) : sdF len o off k = match len with | 0 => .bad 114 | _ + 1 => k (.ptr o off) := by cases len <;> rfl
theorem clF_eq (len sz : Nat) (h : T O) (o : Q) (off : Nat) (k : Nat → List V → Res) : clF len sz h o off k = match len with | 0 => k 0 [] | len => ldsK h o off (len * sz) fun l => k len l := by
  cases len with
  | zero => rfl
  | succ m => exact ldsF_eq h o off _ _
theorem byF_eq (l : Nat) : ∀ (n : Nat) (k : List V → Res), byF l n k = byL l n k := by
  induction l with
  | zero => intro n k; rfl
  | succ l ih =>
    intro n k
    show fN (Nat.mod n 256) (fun c => fN (Nat.div n 256) fun n' => byF l n' fun cs => k (.int .u8 (.ofNat c) :: cs)) = _
    simp only [fN_eq, ih, byL, forceN_eq]; rfl
theorem killF_eq (l : List Q) : ∀ (h : T O) (k : T O → Res), killF l h k = killK l h k := by
  induction l with
  | nil => intro h k; rfl
  | cons q l ih =>
    intro h k
    show doT q .dead h (fun h' => killF l h' k) = _
    simp only [doT_eq, ih, killK]
theorem wrF_eq (o : Q) (off : Nat) (vs : List V) (h : T O) (k : T O → Res) : wrF o off vs h k = wrK o off vs h k := by
  simp only [wrF, wrK, goT_eq, gO_eq]
  generalize h.ob o = ob
  cases ob <;> try rfl
  rename_i n t anc flo ty ex
  show wrR n t anc flo ty ex o off vs h k = _
  simp only [wrR, lenF_eq, gdF_eq, putsF_eq, ifF_eq, doT_eq, wrS, killF_eq]; rfl
theorem growF_eq (ty sz len m : Nat) (old new : List V) (h : T O) (nx : Q) (k : Kw) : growF ty sz len m old new h nx k = growK ty sz len m old new h nx k := by
  simp only [growF, growK, gdF_eq, putsF_eq, fN_eq, forceN_eq, doT_eq, sqT_eq]; rfl
theorem vI_eq (v : V) (k : IntKind → Int → Res) : vI v k = asI v k := by cases v <;> rfl
theorem vB_eq (v : V) (k : Bool → Res) : vB v k = asB v k := by cases v <;> rfl
theorem vN_eq (v : V) (k : Nat → Res) : vN v k = asN v k := by
  cases v <;> try rfl
  rename_i kd n; cases n <;> rfl
theorem vP_eq (v : V) (k : Q → Nat → Res) : vP v k = asP v k := by cases v <;> rfl
theorem vS_eq (v : V) (k : Nat → Nat → Res) : vS v k = asS v k := by cases v <;> rfl
theorem vA_eq (v : V) (k : List V → Res) : vA v k = asA v k := by cases v <;> rfl
theorem vT_eq (v : V) (k : List V → Res) : vT v k = match v with | .tup l => k l | _ => .bad 55 := by cases v <;> rfl
theorem vLen_eq (v : V) (k : Nat → Res) : vLen v k = lenV v k := by cases v <;> rfl
theorem vElem_eq (v : V) (sz i : Nat) (k : V → Res) : vElem v sz i k = elemK sz v i k := by
  cases v <;> try rfl
  · exact elF_eq _ _ _ _ _ _ k
  · exact elF_eq _ _ _ _ _ _ k
theorem vCv_eq (v : V) (k : List V → Res) : vCv v k = cvK v k := by cases v <;> rfl
theorem vNck_eq (v : V) (k : V → Res) : vNck v k = match v with | .ptr o off => k (.ptr o off) | .fn f fs cs => k (.fn f fs cs) | .ifc t u => k (.ifc t u) | .yld l => k (.yld l) | _ => .bad 48 := by cases v <;> rfl
theorem vBin_eq (op : BinOp) (a b : V) (k : V → Res) : vBin a op b k = binK op a b k := by
  cases a <;> try rfl
  · rename_i kd x
    show vBinI b op kd x k = _
    cases b <;> try rfl
    rename_i kd' y
    show gdF (Nat.beq (ikNF kd) (ikNF kd')) 16 (binIF op kd x y k) = _
    rw [gdF_eq, binIF_eq, ikNF_eq, ikNF_eq]; rfl
  · rename_i l n
    show vBinS b op l n k = _
    cases b <;> try rfl
    rename_i m j
    exact binSF_eq op l n m j k
theorem vNilS_eq (h : T O) (a b : V) (k : Bool → Res) : vNilS a k = eqK .nilS h a b k := by cases a <;> rfl
theorem vNilM_eq (h : T O) (a b : V) (k : Bool → Res) : vNilM a k = eqK .nilM h a b k := by cases a <;> rfl
theorem vNilF_eq (h : T O) (a b : V) (k : Bool → Res) : vNilF a k = eqK .nilF h a b k := by cases a <;> rfl
theorem vNilI_eq (h : T O) (a b : V) (k : Bool → Res) : vNilI a k = eqK .nilI h a b k := by cases a <;> rfl
theorem vPtrEq_eq (h : T O) (a b : V) (k : Bool → Res) : vPtrEq a h b k = eqK .ptr h a b k := by
  cases a <;> try rfl
  · show vNilP b k = _
    cases b <;> rfl
  · rename_i o off
    show vPtr2 b h o off k = _
    cases b <;> try rfl
    rename_i o' off'
    exact eqPF_eq h o off o' off' k
theorem vCut_eq (sz : Nat) (v : V) (lo hi : Nat) (k : V → Res) : vCut v sz lo hi k = cutL sz v lo hi none k := by
  cases v <;> try rfl
  · show gdF (andF (Nat.beq lo 0) (Nat.beq hi 0)) 40 (k .nils) = gd (Nat.beq lo 0 && Nat.beq hi 0 && true) 40 (k .nils)
    rw [gdF_eq, andF_eq, Bool.and_true]
  · rename_i o off len cap
    show cutSl o off cap sz lo hi k = _
    simp only [cutSl, cutL, gdF_eq, andF_eq, fN_eq, forceN_eq, ifF_eq]; rfl
  · rename_i o off len z
    show gdF (Nat.beq sz z) 43 (cutSu o off len sz lo hi k) = _
    simp only [cutSu, cutL, gdF_eq, andF_eq, fN_eq, forceN_eq, ifF_eq]
    cases Nat.beq sz z
    · rfl
    · rfl
  · show gdF (andF (Nat.beq lo 0) (Nat.beq hi 0)) 45 (k .se) = gd (Nat.beq lo 0 && Nat.beq hi 0) 45 (k .se)
    rw [gdF_eq, andF_eq]
theorem vSd_eq (v : V) (k : V → Res) : vSd v k = match v with | .nils => k .nilp | .sl o off (_ + 1) _ => k (.ptr o off) | .su o off (_ + 1) _ => k (.ptr o off) | _ => .bad 114 := by
  cases v <;> try rfl
  · rename_i o off len cap; cases len <;> rfl
  · rename_i o off len z; cases len <;> rfl
theorem vCells_eq (sz : Nat) (v : V) (h : T O) (k : Nat → List V → Res) : vCells v sz h k = cellsK sz v h k := by
  cases v <;> try rfl
  · rename_i l n
    show gdF (Nat.beq sz 1) 62 (byF l n fun cs => k l cs) = _
    rw [gdF_eq, byF_eq]; rfl
  · exact clF_eq _ sz h _ _ k
  · exact clF_eq _ sz h _ _ k
theorem vAp_eq (ty sz m : Nat) (v : V) (new : List V) (h : T O) (nx : Q) (k : Kw) : vAp v ty sz m new h nx k = apK ty sz v m new h nx k := by
  cases v <;> try rfl
  · show apN m ty sz new h nx k = _
    cases m with
    | zero => rfl
    | succ m => exact growF_eq ty sz 0 _ [] new h nx k
  · rename_i o off len cap
    show apSl o off len cap ty sz m new h nx k = _
    simp only [apSl, apK, ifF_eq, clF_eq, growF_eq]
    show (match Nat.ble (len + m) cap with | true => _ | false => _) = _
    cases Nat.ble (len + m) cap
    · simp only [cellsK]
      cases len <;> rfl
    · cases m with
      | zero => rfl
      | succ m => simp only [wrF_eq, fN_eq, forceN_eq]; rfl
  · rename_i o off len z
    show gdF (Nat.beq sz z) 63 (apSu m o off len ty sz new h nx k) = _
    rw [gdF_eq]
    simp only [apK]
    congr 1
    cases m with
    | zero => rfl
    | succ m =>
      show goT o h (fun ob => apRow ob o off len ty sz (Nat.succ m) new h nx k) = _
      rw [goT_eq]
      simp only [gO_eq]
      generalize h.ob o = ob
      cases ob <;> try rfl
      rename_i n t anc flo ty' ex
      show ifF _ _ _ = _
      rw [ifF_eq]
      simp only [apFit, gdF_eq, andF_eq, wrF_eq, putsF_eq, fN_eq, forceN_eq, doT_eq, sqT_eq, ← Bool.and_assoc]
      rfl
theorem vCp_eq (n : Nat) (v : V) (new : List V) (h : T O) (nx : Q) (k : Kw) : vCp v n new h nx k = match v with
    | .sl o off _ _ => wrK o off new h fun h' => k (.int .i64 (.ofNat n)) h' nx
    | .su o off _ _ => wrK o off new h fun h' => k (.int .i64 (.ofNat n)) h' nx
    | _ => .bad 73 := by
  cases v <;> try rfl
  · exact wrF_eq _ _ _ _ _
  · exact wrF_eq _ _ _ _ _
theorem taMs_eq (ok : Bool) (z : V) (k : V → Res) : taMs ok z k = taMiss ok z k := by cases ok <;> rfl
theorem vTa_eq (ok : Bool) (t : Nat) (z v : V) (k : V → Res) : vTa v ok t z k = taK ok t z v k := by
  cases v <;> try rfl
  · exact taMs_eq ok z k
  · rename_i t' u
    show taIfc ok t z t' u k = _
    simp only [taIfc, taK, ifF_eq, taMs_eq]
    cases Nat.beq t' t
    · rfl
    · cases ok <;> rfl
end Go.CM
end
