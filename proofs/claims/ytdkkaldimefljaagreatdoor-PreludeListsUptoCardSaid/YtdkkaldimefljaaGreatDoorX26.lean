import Derived.Test.YtdkkaldimefljaaGreatDoorX14
set_option linter.all false
noncomputable section
namespace Go.CM
noncomputable def ev1 : N5 V (TQ V) → (V → Res) → Res := @N5.rec V (TQ V) (fun _ => (V → Res) → Res) (fun v _ _ _ _ k => k v)
noncomputable def xv1a (g : TQ V → (V → Res) → Res) (t : N5 V (TQ V)) (k : V → Res) : Res := @N5.rec V (TQ V) (fun _ => (TQ V → (V → Res) → Res) → (V → Res) → Res) (fun _ a _ _ _ g k => g a k) t g k
noncomputable def xv1b (g : TQ V → (V → Res) → Res) (t : N5 V (TQ V)) (k : V → Res) : Res := @N5.rec V (TQ V) (fun _ => (TQ V → (V → Res) → Res) → (V → Res) → Res) (fun _ _ b _ _ g k => g b k) t g k
noncomputable def xv1c (g : TQ V → (V → Res) → Res) (t : N5 V (TQ V)) (k : V → Res) : Res := @N5.rec V (TQ V) (fun _ => (TQ V → (V → Res) → Res) → (V → Res) → Res) (fun _ _ _ c _ g k => g c k) t g k
noncomputable def xv1d (g : TQ V → (V → Res) → Res) (t : N5 V (TQ V)) (k : V → Res) : Res := @N5.rec V (TQ V) (fun _ => (TQ V → (V → Res) → Res) → (V → Res) → Res) (fun _ _ _ _ d g k => g d k) t g k
def gv0 (q : QR) (t : TQ V) (k : V → Res) : Res := k (t.get Dft.z q)
noncomputable def gv1 : QN QR → N5 V (TQ V) → (V → Res) → Res := @QN.rec QR (fun _ => N5 V (TQ V) → (V → Res) → Res) ev1 (fun q => xv1a (gv0 q)) (fun q => xv1b (gv0 q)) (fun q => xv1c (gv0 q)) (fun q => xv1d (gv0 q))
abbrev Pv1 := V → N5 V (TQ V) → (N5 V (TQ V) → Res) → Res
noncomputable def nv1 (v : V) (t : N5 V (TQ V)) (k : N5 V (TQ V) → Res) : Res := @N5.rec V (TQ V) (fun _ => V → (N5 V (TQ V) → Res) → Res) (fun _ a b c d v k => k (.mk v a b c d)) t v k
abbrev Pv0 := V → TQ V → (TQ V → Res) → Res
def dv0 (q : QR) (v : V) (t : TQ V) (k : TQ V → Res) : Res := k (t.put Dft.z v q)
noncomputable def uv1a (p : Pv0) (v : V) (t : N5 V (TQ V)) (k : N5 V (TQ V) → Res) : Res := @N5.rec V (TQ V) (fun _ => Pv0 → V → (N5 V (TQ V) → Res) → Res) (fun u a b c d p v k => p v a fun x => k (.mk u x b c d)) t p v k
noncomputable def uv1b (p : Pv0) (v : V) (t : N5 V (TQ V)) (k : N5 V (TQ V) → Res) : Res := @N5.rec V (TQ V) (fun _ => Pv0 → V → (N5 V (TQ V) → Res) → Res) (fun u a b c d p v k => p v b fun x => k (.mk u a x c d)) t p v k
noncomputable def uv1c (p : Pv0) (v : V) (t : N5 V (TQ V)) (k : N5 V (TQ V) → Res) : Res := @N5.rec V (TQ V) (fun _ => Pv0 → V → (N5 V (TQ V) → Res) → Res) (fun u a b c d p v k => p v c fun x => k (.mk u a b x d)) t p v k
noncomputable def uv1d (p : Pv0) (v : V) (t : N5 V (TQ V)) (k : N5 V (TQ V) → Res) : Res := @N5.rec V (TQ V) (fun _ => Pv0 → V → (N5 V (TQ V) → Res) → Res) (fun u a b c d p v k => p v d fun x => k (.mk u a b c x)) t p v k
noncomputable def dv1 : QN QR → Pv1 := @QN.rec QR (fun _ => Pv1) nv1 (fun q => uv1a (dv0 q)) (fun q => uv1b (dv0 q)) (fun q => uv1c (dv0 q)) (fun q => uv1d (dv0 q))
noncomputable def ev2 : N5 V (T1 V) → (V → Res) → Res := @N5.rec V (T1 V) (fun _ => (V → Res) → Res) (fun v _ _ _ _ k => k v)
noncomputable def xv2a (g : T1 V → (V → Res) → Res) (t : N5 V (T1 V)) (k : V → Res) : Res := @N5.rec V (T1 V) (fun _ => (T1 V → (V → Res) → Res) → (V → Res) → Res) (fun _ a _ _ _ g k => g a k) t g k
noncomputable def xv2b (g : T1 V → (V → Res) → Res) (t : N5 V (T1 V)) (k : V → Res) : Res := @N5.rec V (T1 V) (fun _ => (T1 V → (V → Res) → Res) → (V → Res) → Res) (fun _ _ b _ _ g k => g b k) t g k
noncomputable def xv2c (g : T1 V → (V → Res) → Res) (t : N5 V (T1 V)) (k : V → Res) : Res := @N5.rec V (T1 V) (fun _ => (T1 V → (V → Res) → Res) → (V → Res) → Res) (fun _ _ _ c _ g k => g c k) t g k
noncomputable def xv2d (g : T1 V → (V → Res) → Res) (t : N5 V (T1 V)) (k : V → Res) : Res := @N5.rec V (T1 V) (fun _ => (T1 V → (V → Res) → Res) → (V → Res) → Res) (fun _ _ _ _ d g k => g d k) t g k
noncomputable def gv2 : QN Q1 → N5 V (T1 V) → (V → Res) → Res := @QN.rec Q1 (fun _ => N5 V (T1 V) → (V → Res) → Res) ev2 (fun q => xv2a (gv1 q)) (fun q => xv2b (gv1 q)) (fun q => xv2c (gv1 q)) (fun q => xv2d (gv1 q))
abbrev Pv2 := V → N5 V (T1 V) → (N5 V (T1 V) → Res) → Res
noncomputable def nv2 (v : V) (t : N5 V (T1 V)) (k : N5 V (T1 V) → Res) : Res := @N5.rec V (T1 V) (fun _ => V → (N5 V (T1 V) → Res) → Res) (fun _ a b c d v k => k (.mk v a b c d)) t v k
noncomputable def uv2a (p : Pv1) (v : V) (t : N5 V (T1 V)) (k : N5 V (T1 V) → Res) : Res := @N5.rec V (T1 V) (fun _ => Pv1 → V → (N5 V (T1 V) → Res) → Res) (fun u a b c d p v k => p v a fun x => k (.mk u x b c d)) t p v k
noncomputable def uv2b (p : Pv1) (v : V) (t : N5 V (T1 V)) (k : N5 V (T1 V) → Res) : Res := @N5.rec V (T1 V) (fun _ => Pv1 → V → (N5 V (T1 V) → Res) → Res) (fun u a b c d p v k => p v b fun x => k (.mk u a x c d)) t p v k
noncomputable def uv2c (p : Pv1) (v : V) (t : N5 V (T1 V)) (k : N5 V (T1 V) → Res) : Res := @N5.rec V (T1 V) (fun _ => Pv1 → V → (N5 V (T1 V) → Res) → Res) (fun u a b c d p v k => p v c fun x => k (.mk u a b x d)) t p v k
noncomputable def uv2d (p : Pv1) (v : V) (t : N5 V (T1 V)) (k : N5 V (T1 V) → Res) : Res := @N5.rec V (T1 V) (fun _ => Pv1 → V → (N5 V (T1 V) → Res) → Res) (fun u a b c d p v k => p v d fun x => k (.mk u a b c x)) t p v k
noncomputable def dv2 : QN Q1 → Pv2 := @QN.rec Q1 (fun _ => Pv2) nv2 (fun q => uv2a (dv1 q)) (fun q => uv2b (dv1 q)) (fun q => uv2c (dv1 q)) (fun q => uv2d (dv1 q))
noncomputable def ev3 : N5 V (T2 V) → (V → Res) → Res := @N5.rec V (T2 V) (fun _ => (V → Res) → Res) (fun v _ _ _ _ k => k v)
noncomputable def xv3a (g : T2 V → (V → Res) → Res) (t : N5 V (T2 V)) (k : V → Res) : Res := @N5.rec V (T2 V) (fun _ => (T2 V → (V → Res) → Res) → (V → Res) → Res) (fun _ a _ _ _ g k => g a k) t g k
noncomputable def xv3b (g : T2 V → (V → Res) → Res) (t : N5 V (T2 V)) (k : V → Res) : Res := @N5.rec V (T2 V) (fun _ => (T2 V → (V → Res) → Res) → (V → Res) → Res) (fun _ _ b _ _ g k => g b k) t g k
noncomputable def xv3c (g : T2 V → (V → Res) → Res) (t : N5 V (T2 V)) (k : V → Res) : Res := @N5.rec V (T2 V) (fun _ => (T2 V → (V → Res) → Res) → (V → Res) → Res) (fun _ _ _ c _ g k => g c k) t g k
noncomputable def xv3d (g : T2 V → (V → Res) → Res) (t : N5 V (T2 V)) (k : V → Res) : Res := @N5.rec V (T2 V) (fun _ => (T2 V → (V → Res) → Res) → (V → Res) → Res) (fun _ _ _ _ d g k => g d k) t g k
noncomputable def gv3 : QN Q2 → N5 V (T2 V) → (V → Res) → Res := @QN.rec Q2 (fun _ => N5 V (T2 V) → (V → Res) → Res) ev3 (fun q => xv3a (gv2 q)) (fun q => xv3b (gv2 q)) (fun q => xv3c (gv2 q)) (fun q => xv3d (gv2 q))
abbrev Pv3 := V → N5 V (T2 V) → (N5 V (T2 V) → Res) → Res
noncomputable def nv3 (v : V) (t : N5 V (T2 V)) (k : N5 V (T2 V) → Res) : Res := @N5.rec V (T2 V) (fun _ => V → (N5 V (T2 V) → Res) → Res) (fun _ a b c d v k => k (.mk v a b c d)) t v k
noncomputable def uv3a (p : Pv2) (v : V) (t : N5 V (T2 V)) (k : N5 V (T2 V) → Res) : Res := @N5.rec V (T2 V) (fun _ => Pv2 → V → (N5 V (T2 V) → Res) → Res) (fun u a b c d p v k => p v a fun x => k (.mk u x b c d)) t p v k
noncomputable def uv3b (p : Pv2) (v : V) (t : N5 V (T2 V)) (k : N5 V (T2 V) → Res) : Res := @N5.rec V (T2 V) (fun _ => Pv2 → V → (N5 V (T2 V) → Res) → Res) (fun u a b c d p v k => p v b fun x => k (.mk u a x c d)) t p v k
noncomputable def uv3c (p : Pv2) (v : V) (t : N5 V (T2 V)) (k : N5 V (T2 V) → Res) : Res := @N5.rec V (T2 V) (fun _ => Pv2 → V → (N5 V (T2 V) → Res) → Res) (fun u a b c d p v k => p v c fun x => k (.mk u a b x d)) t p v k
noncomputable def uv3d (p : Pv2) (v : V) (t : N5 V (T2 V)) (k : N5 V (T2 V) → Res) : Res := @N5.rec V (T2 V) (fun _ => Pv2 → V → (N5 V (T2 V) → Res) → Res) (fun u a b c d p v k => p v d fun x => k (.mk u a b c x)) t p v k
noncomputable def dv3 : QN Q2 → Pv3 := @QN.rec Q2 (fun _ => Pv3) nv3 (fun q => uv3a (dv2 q)) (fun q => uv3b (dv2 q)) (fun q => uv3c (dv2 q)) (fun q => uv3d (dv2 q))
noncomputable def ev4 : N5 V (T3 V) → (V → Res) → Res := @N5.rec V (T3 V) (fun _ => (V → Res) → Res) (fun v _ _ _ _ k => k v)
noncomputable def xv4a (g : T3 V → (V → Res) → Res) (t : N5 V (T3 V)) (k : V → Res) : Res := @N5.rec V (T3 V) (fun _ => (T3 V → (V → Res) → Res) → (V → Res) → Res) (fun _ a _ _ _ g k => g a k) t g k
noncomputable def xv4b (g : T3 V → (V → Res) → Res) (t : N5 V (T3 V)) (k : V → Res) : Res := @N5.rec V (T3 V) (fun _ => (T3 V → (V → Res) → Res) → (V → Res) → Res) (fun _ _ b _ _ g k => g b k) t g k
noncomputable def xv4c (g : T3 V → (V → Res) → Res) (t : N5 V (T3 V)) (k : V → Res) : Res := @N5.rec V (T3 V) (fun _ => (T3 V → (V → Res) → Res) → (V → Res) → Res) (fun _ _ _ c _ g k => g c k) t g k
noncomputable def xv4d (g : T3 V → (V → Res) → Res) (t : N5 V (T3 V)) (k : V → Res) : Res := @N5.rec V (T3 V) (fun _ => (T3 V → (V → Res) → Res) → (V → Res) → Res) (fun _ _ _ _ d g k => g d k) t g k
noncomputable def gv4 : QN Q3 → N5 V (T3 V) → (V → Res) → Res := @QN.rec Q3 (fun _ => N5 V (T3 V) → (V → Res) → Res) ev4 (fun q => xv4a (gv3 q)) (fun q => xv4b (gv3 q)) (fun q => xv4c (gv3 q)) (fun q => xv4d (gv3 q))
abbrev Pv4 := V → N5 V (T3 V) → (N5 V (T3 V) → Res) → Res
noncomputable def nv4 (v : V) (t : N5 V (T3 V)) (k : N5 V (T3 V) → Res) : Res := @N5.rec V (T3 V) (fun _ => V → (N5 V (T3 V) → Res) → Res) (fun _ a b c d v k => k (.mk v a b c d)) t v k
noncomputable def uv4a (p : Pv3) (v : V) (t : N5 V (T3 V)) (k : N5 V (T3 V) → Res) : Res := @N5.rec V (T3 V) (fun _ => Pv3 → V → (N5 V (T3 V) → Res) → Res) (fun u a b c d p v k => p v a fun x => k (.mk u x b c d)) t p v k
noncomputable def uv4b (p : Pv3) (v : V) (t : N5 V (T3 V)) (k : N5 V (T3 V) → Res) : Res := @N5.rec V (T3 V) (fun _ => Pv3 → V → (N5 V (T3 V) → Res) → Res) (fun u a b c d p v k => p v b fun x => k (.mk u a x c d)) t p v k
noncomputable def uv4c (p : Pv3) (v : V) (t : N5 V (T3 V)) (k : N5 V (T3 V) → Res) : Res := @N5.rec V (T3 V) (fun _ => Pv3 → V → (N5 V (T3 V) → Res) → Res) (fun u a b c d p v k => p v c fun x => k (.mk u a b x d)) t p v k
noncomputable def uv4d (p : Pv3) (v : V) (t : N5 V (T3 V)) (k : N5 V (T3 V) → Res) : Res := @N5.rec V (T3 V) (fun _ => Pv3 → V → (N5 V (T3 V) → Res) → Res) (fun u a b c d p v k => p v d fun x => k (.mk u a b c x)) t p v k
noncomputable def dv4 : QN Q3 → Pv4 := @QN.rec Q3 (fun _ => Pv4) nv4 (fun q => uv4a (dv3 q)) (fun q => uv4b (dv3 q)) (fun q => uv4c (dv3 q)) (fun q => uv4d (dv3 q))
noncomputable def ev5 : N5 V (T4 V) → (V → Res) → Res := @N5.rec V (T4 V) (fun _ => (V → Res) → Res) (fun v _ _ _ _ k => k v)
noncomputable def xv5a (g : T4 V → (V → Res) → Res) (t : N5 V (T4 V)) (k : V → Res) : Res := @N5.rec V (T4 V) (fun _ => (T4 V → (V → Res) → Res) → (V → Res) → Res) (fun _ a _ _ _ g k => g a k) t g k
noncomputable def xv5b (g : T4 V → (V → Res) → Res) (t : N5 V (T4 V)) (k : V → Res) : Res := @N5.rec V (T4 V) (fun _ => (T4 V → (V → Res) → Res) → (V → Res) → Res) (fun _ _ b _ _ g k => g b k) t g k
noncomputable def xv5c (g : T4 V → (V → Res) → Res) (t : N5 V (T4 V)) (k : V → Res) : Res := @N5.rec V (T4 V) (fun _ => (T4 V → (V → Res) → Res) → (V → Res) → Res) (fun _ _ _ c _ g k => g c k) t g k
noncomputable def xv5d (g : T4 V → (V → Res) → Res) (t : N5 V (T4 V)) (k : V → Res) : Res := @N5.rec V (T4 V) (fun _ => (T4 V → (V → Res) → Res) → (V → Res) → Res) (fun _ _ _ _ d g k => g d k) t g k
noncomputable def gv5 : QN Q4 → N5 V (T4 V) → (V → Res) → Res := @QN.rec Q4 (fun _ => N5 V (T4 V) → (V → Res) → Res) ev5 (fun q => xv5a (gv4 q)) (fun q => xv5b (gv4 q)) (fun q => xv5c (gv4 q)) (fun q => xv5d (gv4 q))
abbrev Pv5 := V → N5 V (T4 V) → (N5 V (T4 V) → Res) → Res
noncomputable def nv5 (v : V) (t : N5 V (T4 V)) (k : N5 V (T4 V) → Res) : Res := @N5.rec V (T4 V) (fun _ => V → (N5 V (T4 V) → Res) → Res) (fun _ a b c d v k => k (.mk v a b c d)) t v k
noncomputable def uv5a (p : Pv4) (v : V) (t : N5 V (T4 V)) (k : N5 V (T4 V) → Res) : Res := @N5.rec V (T4 V) (fun _ => Pv4 → V → (N5 V (T4 V) → Res) → Res) (fun u a b c d p v k => p v a fun x => k (.mk u x b c d)) t p v k
noncomputable def uv5b (p : Pv4) (v : V) (t : N5 V (T4 V)) (k : N5 V (T4 V) → Res) : Res := @N5.rec V (T4 V) (fun _ => Pv4 → V → (N5 V (T4 V) → Res) → Res) (fun u a b c d p v k => p v b fun x => k (.mk u a x c d)) t p v k
noncomputable def uv5c (p : Pv4) (v : V) (t : N5 V (T4 V)) (k : N5 V (T4 V) → Res) : Res := @N5.rec V (T4 V) (fun _ => Pv4 → V → (N5 V (T4 V) → Res) → Res) (fun u a b c d p v k => p v c fun x => k (.mk u a b x d)) t p v k
noncomputable def uv5d (p : Pv4) (v : V) (t : N5 V (T4 V)) (k : N5 V (T4 V) → Res) : Res := @N5.rec V (T4 V) (fun _ => Pv4 → V → (N5 V (T4 V) → Res) → Res) (fun u a b c d p v k => p v d fun x => k (.mk u a b c x)) t p v k
noncomputable def dv5 : QN Q4 → Pv5 := @QN.rec Q4 (fun _ => Pv5) nv5 (fun q => uv5a (dv4 q)) (fun q => uv5b (dv4 q)) (fun q => uv5c (dv4 q)) (fun q => uv5d (dv4 q))
noncomputable def ev6 : N5 V (T5 V) → (V → Res) → Res := @N5.rec V (T5 V) (fun _ => (V → Res) → Res) (fun v _ _ _ _ k => k v)
noncomputable def xv6a (g : T5 V → (V → Res) → Res) (t : N5 V (T5 V)) (k : V → Res) : Res := @N5.rec V (T5 V) (fun _ => (T5 V → (V → Res) → Res) → (V → Res) → Res) (fun _ a _ _ _ g k => g a k) t g k
noncomputable def xv6b (g : T5 V → (V → Res) → Res) (t : N5 V (T5 V)) (k : V → Res) : Res := @N5.rec V (T5 V) (fun _ => (T5 V → (V → Res) → Res) → (V → Res) → Res) (fun _ _ b _ _ g k => g b k) t g k
noncomputable def xv6c (g : T5 V → (V → Res) → Res) (t : N5 V (T5 V)) (k : V → Res) : Res := @N5.rec V (T5 V) (fun _ => (T5 V → (V → Res) → Res) → (V → Res) → Res) (fun _ _ _ c _ g k => g c k) t g k
noncomputable def xv6d (g : T5 V → (V → Res) → Res) (t : N5 V (T5 V)) (k : V → Res) : Res := @N5.rec V (T5 V) (fun _ => (T5 V → (V → Res) → Res) → (V → Res) → Res) (fun _ _ _ _ d g k => g d k) t g k
noncomputable def gv6 : QN Q5 → N5 V (T5 V) → (V → Res) → Res := @QN.rec Q5 (fun _ => N5 V (T5 V) → (V → Res) → Res) ev6 (fun q => xv6a (gv5 q)) (fun q => xv6b (gv5 q)) (fun q => xv6c (gv5 q)) (fun q => xv6d (gv5 q))
abbrev Pv6 := V → N5 V (T5 V) → (N5 V (T5 V) → Res) → Res
noncomputable def nv6 (v : V) (t : N5 V (T5 V)) (k : N5 V (T5 V) → Res) : Res := @N5.rec V (T5 V) (fun _ => V → (N5 V (T5 V) → Res) → Res) (fun _ a b c d v k => k (.mk v a b c d)) t v k
noncomputable def uv6a (p : Pv5) (v : V) (t : N5 V (T5 V)) (k : N5 V (T5 V) → Res) : Res := @N5.rec V (T5 V) (fun _ => Pv5 → V → (N5 V (T5 V) → Res) → Res) (fun u a b c d p v k => p v a fun x => k (.mk u x b c d)) t p v k
noncomputable def uv6b (p : Pv5) (v : V) (t : N5 V (T5 V)) (k : N5 V (T5 V) → Res) : Res := @N5.rec V (T5 V) (fun _ => Pv5 → V → (N5 V (T5 V) → Res) → Res) (fun u a b c d p v k => p v b fun x => k (.mk u a x c d)) t p v k
noncomputable def uv6c (p : Pv5) (v : V) (t : N5 V (T5 V)) (k : N5 V (T5 V) → Res) : Res := @N5.rec V (T5 V) (fun _ => Pv5 → V → (N5 V (T5 V) → Res) → Res) (fun u a b c d p v k => p v c fun x => k (.mk u a b x d)) t p v k
noncomputable def uv6d (p : Pv5) (v : V) (t : N5 V (T5 V)) (k : N5 V (T5 V) → Res) : Res := @N5.rec V (T5 V) (fun _ => Pv5 → V → (N5 V (T5 V) → Res) → Res) (fun u a b c d p v k => p v d fun x => k (.mk u a b c x)) t p v k
noncomputable def dv6 : QN Q5 → Pv6 := @QN.rec Q5 (fun _ => Pv6) nv6 (fun q => uv6a (dv5 q)) (fun q => uv6b (dv5 q)) (fun q => uv6c (dv5 q)) (fun q => uv6d (dv5 q))
noncomputable def ev7 : N5 V (T6 V) → (V → Res) → Res := @N5.rec V (T6 V) (fun _ => (V → Res) → Res) (fun v _ _ _ _ k => k v)
noncomputable def xv7a (g : T6 V → (V → Res) → Res) (t : N5 V (T6 V)) (k : V → Res) : Res := @N5.rec V (T6 V) (fun _ => (T6 V → (V → Res) → Res) → (V → Res) → Res) (fun _ a _ _ _ g k => g a k) t g k
noncomputable def xv7b (g : T6 V → (V → Res) → Res) (t : N5 V (T6 V)) (k : V → Res) : Res := @N5.rec V (T6 V) (fun _ => (T6 V → (V → Res) → Res) → (V → Res) → Res) (fun _ _ b _ _ g k => g b k) t g k
noncomputable def xv7c (g : T6 V → (V → Res) → Res) (t : N5 V (T6 V)) (k : V → Res) : Res := @N5.rec V (T6 V) (fun _ => (T6 V → (V → Res) → Res) → (V → Res) → Res) (fun _ _ _ c _ g k => g c k) t g k
noncomputable def xv7d (g : T6 V → (V → Res) → Res) (t : N5 V (T6 V)) (k : V → Res) : Res := @N5.rec V (T6 V) (fun _ => (T6 V → (V → Res) → Res) → (V → Res) → Res) (fun _ _ _ _ d g k => g d k) t g k
noncomputable def gv7 : QN Q6 → N5 V (T6 V) → (V → Res) → Res := @QN.rec Q6 (fun _ => N5 V (T6 V) → (V → Res) → Res) ev7 (fun q => xv7a (gv6 q)) (fun q => xv7b (gv6 q)) (fun q => xv7c (gv6 q)) (fun q => xv7d (gv6 q))
abbrev Pv7 := V → N5 V (T6 V) → (N5 V (T6 V) → Res) → Res
noncomputable def nv7 (v : V) (t : N5 V (T6 V)) (k : N5 V (T6 V) → Res) : Res := @N5.rec V (T6 V) (fun _ => V → (N5 V (T6 V) → Res) → Res) (fun _ a b c d v k => k (.mk v a b c d)) t v k
noncomputable def uv7a (p : Pv6) (v : V) (t : N5 V (T6 V)) (k : N5 V (T6 V) → Res) : Res := @N5.rec V (T6 V) (fun _ => Pv6 → V → (N5 V (T6 V) → Res) → Res) (fun u a b c d p v k => p v a fun x => k (.mk u x b c d)) t p v k
noncomputable def uv7b (p : Pv6) (v : V) (t : N5 V (T6 V)) (k : N5 V (T6 V) → Res) : Res := @N5.rec V (T6 V) (fun _ => Pv6 → V → (N5 V (T6 V) → Res) → Res) (fun u a b c d p v k => p v b fun x => k (.mk u a x c d)) t p v k
noncomputable def uv7c (p : Pv6) (v : V) (t : N5 V (T6 V)) (k : N5 V (T6 V) → Res) : Res := @N5.rec V (T6 V) (fun _ => Pv6 → V → (N5 V (T6 V) → Res) → Res) (fun u a b c d p v k => p v c fun x => k (.mk u a b x d)) t p v k
noncomputable def uv7d (p : Pv6) (v : V) (t : N5 V (T6 V)) (k : N5 V (T6 V) → Res) : Res := @N5.rec V (T6 V) (fun _ => Pv6 → V → (N5 V (T6 V) → Res) → Res) (fun u a b c d p v k => p v d fun x => k (.mk u a b c x)) t p v k
noncomputable def dv7 : QN Q6 → Pv7 := @QN.rec Q6 (fun _ => Pv7) nv7 (fun q => uv7a (dv6 q)) (fun q => uv7b (dv6 q)) (fun q => uv7c (dv6 q)) (fun q => uv7d (dv6 q))
noncomputable def ev8 : N5 V (T7 V) → (V → Res) → Res := @N5.rec V (T7 V) (fun _ => (V → Res) → Res) (fun v _ _ _ _ k => k v)
noncomputable def xv8a (g : T7 V → (V → Res) → Res) (t : N5 V (T7 V)) (k : V → Res) : Res := @N5.rec V (T7 V) (fun _ => (T7 V → (V → Res) → Res) → (V → Res) → Res) (fun _ a _ _ _ g k => g a k) t g k
noncomputable def xv8b (g : T7 V → (V → Res) → Res) (t : N5 V (T7 V)) (k : V → Res) : Res := @N5.rec V (T7 V) (fun _ => (T7 V → (V → Res) → Res) → (V → Res) → Res) (fun _ _ b _ _ g k => g b k) t g k
noncomputable def xv8c (g : T7 V → (V → Res) → Res) (t : N5 V (T7 V)) (k : V → Res) : Res := @N5.rec V (T7 V) (fun _ => (T7 V → (V → Res) → Res) → (V → Res) → Res) (fun _ _ _ c _ g k => g c k) t g k
noncomputable def xv8d (g : T7 V → (V → Res) → Res) (t : N5 V (T7 V)) (k : V → Res) : Res := @N5.rec V (T7 V) (fun _ => (T7 V → (V → Res) → Res) → (V → Res) → Res) (fun _ _ _ _ d g k => g d k) t g k
noncomputable def gv8 : QN Q7 → N5 V (T7 V) → (V → Res) → Res := @QN.rec Q7 (fun _ => N5 V (T7 V) → (V → Res) → Res) ev8 (fun q => xv8a (gv7 q)) (fun q => xv8b (gv7 q)) (fun q => xv8c (gv7 q)) (fun q => xv8d (gv7 q))
abbrev Pv8 := V → N5 V (T7 V) → (N5 V (T7 V) → Res) → Res
noncomputable def nv8 (v : V) (t : N5 V (T7 V)) (k : N5 V (T7 V) → Res) : Res := @N5.rec V (T7 V) (fun _ => V → (N5 V (T7 V) → Res) → Res) (fun _ a b c d v k => k (.mk v a b c d)) t v k
noncomputable def uv8a (p : Pv7) (v : V) (t : N5 V (T7 V)) (k : N5 V (T7 V) → Res) : Res := @N5.rec V (T7 V) (fun _ => Pv7 → V → (N5 V (T7 V) → Res) → Res) (fun u a b c d p v k => p v a fun x => k (.mk u x b c d)) t p v k
noncomputable def uv8b (p : Pv7) (v : V) (t : N5 V (T7 V)) (k : N5 V (T7 V) → Res) : Res := @N5.rec V (T7 V) (fun _ => Pv7 → V → (N5 V (T7 V) → Res) → Res) (fun u a b c d p v k => p v b fun x => k (.mk u a x c d)) t p v k
noncomputable def uv8c (p : Pv7) (v : V) (t : N5 V (T7 V)) (k : N5 V (T7 V) → Res) : Res := @N5.rec V (T7 V) (fun _ => Pv7 → V → (N5 V (T7 V) → Res) → Res) (fun u a b c d p v k => p v c fun x => k (.mk u a b x d)) t p v k
noncomputable def uv8d (p : Pv7) (v : V) (t : N5 V (T7 V)) (k : N5 V (T7 V) → Res) : Res := @N5.rec V (T7 V) (fun _ => Pv7 → V → (N5 V (T7 V) → Res) → Res) (fun u a b c d p v k => p v d fun x => k (.mk u a b c x)) t p v k
noncomputable def dv8 : QN Q7 → Pv8 := @QN.rec Q7 (fun _ => Pv8) nv8 (fun q => uv8a (dv7 q)) (fun q => uv8b (dv7 q)) (fun q => uv8c (dv7 q)) (fun q => uv8d (dv7 q))
noncomputable def ev9 : N5 V (T8 V) → (V → Res) → Res := @N5.rec V (T8 V) (fun _ => (V → Res) → Res) (fun v _ _ _ _ k => k v)
noncomputable def xv9a (g : T8 V → (V → Res) → Res) (t : N5 V (T8 V)) (k : V → Res) : Res := @N5.rec V (T8 V) (fun _ => (T8 V → (V → Res) → Res) → (V → Res) → Res) (fun _ a _ _ _ g k => g a k) t g k
noncomputable def xv9b (g : T8 V → (V → Res) → Res) (t : N5 V (T8 V)) (k : V → Res) : Res := @N5.rec V (T8 V) (fun _ => (T8 V → (V → Res) → Res) → (V → Res) → Res) (fun _ _ b _ _ g k => g b k) t g k
noncomputable def xv9c (g : T8 V → (V → Res) → Res) (t : N5 V (T8 V)) (k : V → Res) : Res := @N5.rec V (T8 V) (fun _ => (T8 V → (V → Res) → Res) → (V → Res) → Res) (fun _ _ _ c _ g k => g c k) t g k
noncomputable def xv9d (g : T8 V → (V → Res) → Res) (t : N5 V (T8 V)) (k : V → Res) : Res := @N5.rec V (T8 V) (fun _ => (T8 V → (V → Res) → Res) → (V → Res) → Res) (fun _ _ _ _ d g k => g d k) t g k
noncomputable def gv9 : QN Q8 → N5 V (T8 V) → (V → Res) → Res := @QN.rec Q8 (fun _ => N5 V (T8 V) → (V → Res) → Res) ev9 (fun q => xv9a (gv8 q)) (fun q => xv9b (gv8 q)) (fun q => xv9c (gv8 q)) (fun q => xv9d (gv8 q))
abbrev Pv9 := V → N5 V (T8 V) → (N5 V (T8 V) → Res) → Res
noncomputable def nv9 (v : V) (t : N5 V (T8 V)) (k : N5 V (T8 V) → Res) : Res := @N5.rec V (T8 V) (fun _ => V → (N5 V (T8 V) → Res) → Res) (fun _ a b c d v k => k (.mk v a b c d)) t v k
noncomputable def uv9a (p : Pv8) (v : V) (t : N5 V (T8 V)) (k : N5 V (T8 V) → Res) : Res := @N5.rec V (T8 V) (fun _ => Pv8 → V → (N5 V (T8 V) → Res) → Res) (fun u a b c d p v k => p v a fun x => k (.mk u x b c d)) t p v k
noncomputable def uv9b (p : Pv8) (v : V) (t : N5 V (T8 V)) (k : N5 V (T8 V) → Res) : Res := @N5.rec V (T8 V) (fun _ => Pv8 → V → (N5 V (T8 V) → Res) → Res) (fun u a b c d p v k => p v b fun x => k (.mk u a x c d)) t p v k
noncomputable def uv9c (p : Pv8) (v : V) (t : N5 V (T8 V)) (k : N5 V (T8 V) → Res) : Res := @N5.rec V (T8 V) (fun _ => Pv8 → V → (N5 V (T8 V) → Res) → Res) (fun u a b c d p v k => p v c fun x => k (.mk u a b x d)) t p v k
noncomputable def uv9d (p : Pv8) (v : V) (t : N5 V (T8 V)) (k : N5 V (T8 V) → Res) : Res := @N5.rec V (T8 V) (fun _ => Pv8 → V → (N5 V (T8 V) → Res) → Res) (fun u a b c d p v k => p v d fun x => k (.mk u a b c x)) t p v k
noncomputable def dv9 : QN Q8 → Pv9 := @QN.rec Q8 (fun _ => Pv9) nv9 (fun q => uv9a (dv8 q)) (fun q => uv9b (dv8 q)) (fun q => uv9c (dv8 q)) (fun q => uv9d (dv8 q))
noncomputable def ev10 : N5 V (T9 V) → (V → Res) → Res := @N5.rec V (T9 V) (fun _ => (V → Res) → Res) (fun v _ _ _ _ k => k v)
noncomputable def xv10a (g : T9 V → (V → Res) → Res) (t : N5 V (T9 V)) (k : V → Res) : Res := @N5.rec V (T9 V) (fun _ => (T9 V → (V → Res) → Res) → (V → Res) → Res) (fun _ a _ _ _ g k => g a k) t g k
noncomputable def xv10b (g : T9 V → (V → Res) → Res) (t : N5 V (T9 V)) (k : V → Res) : Res := @N5.rec V (T9 V) (fun _ => (T9 V → (V → Res) → Res) → (V → Res) → Res) (fun _ _ b _ _ g k => g b k) t g k
noncomputable def xv10c (g : T9 V → (V → Res) → Res) (t : N5 V (T9 V)) (k : V → Res) : Res := @N5.rec V (T9 V) (fun _ => (T9 V → (V → Res) → Res) → (V → Res) → Res) (fun _ _ _ c _ g k => g c k) t g k
noncomputable def xv10d (g : T9 V → (V → Res) → Res) (t : N5 V (T9 V)) (k : V → Res) : Res := @N5.rec V (T9 V) (fun _ => (T9 V → (V → Res) → Res) → (V → Res) → Res) (fun _ _ _ _ d g k => g d k) t g k
noncomputable def gv10 : QN Q9 → N5 V (T9 V) → (V → Res) → Res := @QN.rec Q9 (fun _ => N5 V (T9 V) → (V → Res) → Res) ev10 (fun q => xv10a (gv9 q)) (fun q => xv10b (gv9 q)) (fun q => xv10c (gv9 q)) (fun q => xv10d (gv9 q))
abbrev Pv10 := V → N5 V (T9 V) → (N5 V (T9 V) → Res) → Res
noncomputable def nv10 (v : V) (t : N5 V (T9 V)) (k : N5 V (T9 V) → Res) : Res := @N5.rec V (T9 V) (fun _ => V → (N5 V (T9 V) → Res) → Res) (fun _ a b c d v k => k (.mk v a b c d)) t v k
noncomputable def uv10a (p : Pv9) (v : V) (t : N5 V (T9 V)) (k : N5 V (T9 V) → Res) : Res := @N5.rec V (T9 V) (fun _ => Pv9 → V → (N5 V (T9 V) → Res) → Res) (fun u a b c d p v k => p v a fun x => k (.mk u x b c d)) t p v k
noncomputable def uv10b (p : Pv9) (v : V) (t : N5 V (T9 V)) (k : N5 V (T9 V) → Res) : Res := @N5.rec V (T9 V) (fun _ => Pv9 → V → (N5 V (T9 V) → Res) → Res) (fun u a b c d p v k => p v b fun x => k (.mk u a x c d)) t p v k
noncomputable def uv10c (p : Pv9) (v : V) (t : N5 V (T9 V)) (k : N5 V (T9 V) → Res) : Res := @N5.rec V (T9 V) (fun _ => Pv9 → V → (N5 V (T9 V) → Res) → Res) (fun u a b c d p v k => p v c fun x => k (.mk u a b x d)) t p v k
noncomputable def uv10d (p : Pv9) (v : V) (t : N5 V (T9 V)) (k : N5 V (T9 V) → Res) : Res := @N5.rec V (T9 V) (fun _ => Pv9 → V → (N5 V (T9 V) → Res) → Res) (fun u a b c d p v k => p v d fun x => k (.mk u a b c x)) t p v k
noncomputable def dv10 : QN Q9 → Pv10 := @QN.rec Q9 (fun _ => Pv10) nv10 (fun q => uv10a (dv9 q)) (fun q => uv10b (dv9 q)) (fun q => uv10c (dv9 q)) (fun q => uv10d (dv9 q))
noncomputable def eo1 : N5 O (TQ O) → (O → Res) → Res := @N5.rec O (TQ O) (fun _ => (O → Res) → Res) (fun v _ _ _ _ k => k v)
noncomputable def xo1a (g : TQ O → (O → Res) → Res) (t : N5 O (TQ O)) (k : O → Res) : Res := @N5.rec O (TQ O) (fun _ => (TQ O → (O → Res) → Res) → (O → Res) → Res) (fun _ a _ _ _ g k => g a k) t g k
noncomputable def xo1b (g : TQ O → (O → Res) → Res) (t : N5 O (TQ O)) (k : O → Res) : Res := @N5.rec O (TQ O) (fun _ => (TQ O → (O → Res) → Res) → (O → Res) → Res) (fun _ _ b _ _ g k => g b k) t g k
noncomputable def xo1c (g : TQ O → (O → Res) → Res) (t : N5 O (TQ O)) (k : O → Res) : Res := @N5.rec O (TQ O) (fun _ => (TQ O → (O → Res) → Res) → (O → Res) → Res) (fun _ _ _ c _ g k => g c k) t g k
noncomputable def xo1d (g : TQ O → (O → Res) → Res) (t : N5 O (TQ O)) (k : O → Res) : Res := @N5.rec O (TQ O) (fun _ => (TQ O → (O → Res) → Res) → (O → Res) → Res) (fun _ _ _ _ d g k => g d k) t g k
def go0 (q : QR) (t : TQ O) (k : O → Res) : Res := k (t.get Dft.z q)
noncomputable def go1 : QN QR → N5 O (TQ O) → (O → Res) → Res := @QN.rec QR (fun _ => N5 O (TQ O) → (O → Res) → Res) eo1 (fun q => xo1a (go0 q)) (fun q => xo1b (go0 q)) (fun q => xo1c (go0 q)) (fun q => xo1d (go0 q))
abbrev Po1 := O → N5 O (TQ O) → (N5 O (TQ O) → Res) → Res
noncomputable def no1 (v : O) (t : N5 O (TQ O)) (k : N5 O (TQ O) → Res) : Res := @N5.rec O (TQ O) (fun _ => O → (N5 O (TQ O) → Res) → Res) (fun _ a b c d v k => k (.mk v a b c d)) t v k
abbrev Po0 := O → TQ O → (TQ O → Res) → Res
def do0 (q : QR) (v : O) (t : TQ O) (k : TQ O → Res) : Res := k (t.put Dft.z v q)
noncomputable def uo1a (p : Po0) (v : O) (t : N5 O (TQ O)) (k : N5 O (TQ O) → Res) : Res := @N5.rec O (TQ O) (fun _ => Po0 → O → (N5 O (TQ O) → Res) → Res) (fun u a b c d p v k => p v a fun x => k (.mk u x b c d)) t p v k
noncomputable def uo1b (p : Po0) (v : O) (t : N5 O (TQ O)) (k : N5 O (TQ O) → Res) : Res := @N5.rec O (TQ O) (fun _ => Po0 → O → (N5 O (TQ O) → Res) → Res) (fun u a b c d p v k => p v b fun x => k (.mk u a x c d)) t p v k
noncomputable def uo1c (p : Po0) (v : O) (t : N5 O (TQ O)) (k : N5 O (TQ O) → Res) : Res := @N5.rec O (TQ O) (fun _ => Po0 → O → (N5 O (TQ O) → Res) → Res) (fun u a b c d p v k => p v c fun x => k (.mk u a b x d)) t p v k
noncomputable def uo1d (p : Po0) (v : O) (t : N5 O (TQ O)) (k : N5 O (TQ O) → Res) : Res := @N5.rec O (TQ O) (fun _ => Po0 → O → (N5 O (TQ O) → Res) → Res) (fun u a b c d p v k => p v d fun x => k (.mk u a b c x)) t p v k
noncomputable def do1 : QN QR → Po1 := @QN.rec QR (fun _ => Po1) no1 (fun q => uo1a (do0 q)) (fun q => uo1b (do0 q)) (fun q => uo1c (do0 q)) (fun q => uo1d (do0 q))
noncomputable def eo2 : N5 O (T1 O) → (O → Res) → Res := @N5.rec O (T1 O) (fun _ => (O → Res) → Res) (fun v _ _ _ _ k => k v)
noncomputable def xo2a (g : T1 O → (O → Res) → Res) (t : N5 O (T1 O)) (k : O → Res) : Res := @N5.rec O (T1 O) (fun _ => (T1 O → (O → Res) → Res) → (O → Res) → Res) (fun _ a _ _ _ g k => g a k) t g k
noncomputable def xo2b (g : T1 O → (O → Res) → Res) (t : N5 O (T1 O)) (k : O → Res) : Res := @N5.rec O (T1 O) (fun _ => (T1 O → (O → Res) → Res) → (O → Res) → Res) (fun _ _ b _ _ g k => g b k) t g k
noncomputable def xo2c (g : T1 O → (O → Res) → Res) (t : N5 O (T1 O)) (k : O → Res) : Res := @N5.rec O (T1 O) (fun _ => (T1 O → (O → Res) → Res) → (O → Res) → Res) (fun _ _ _ c _ g k => g c k) t g k
noncomputable def xo2d (g : T1 O → (O → Res) → Res) (t : N5 O (T1 O)) (k : O → Res) : Res := @N5.rec O (T1 O) (fun _ => (T1 O → (O → Res) → Res) → (O → Res) → Res) (fun _ _ _ _ d g k => g d k) t g k
noncomputable def go2 : QN Q1 → N5 O (T1 O) → (O → Res) → Res := @QN.rec Q1 (fun _ => N5 O (T1 O) → (O → Res) → Res) eo2 (fun q => xo2a (go1 q)) (fun q => xo2b (go1 q)) (fun q => xo2c (go1 q)) (fun q => xo2d (go1 q))
abbrev Po2 := O → N5 O (T1 O) → (N5 O (T1 O) → Res) → Res
noncomputable def no2 (v : O) (t : N5 O (T1 O)) (k : N5 O (T1 O) → Res) : Res := @N5.rec O (T1 O) (fun _ => O → (N5 O (T1 O) → Res) → Res) (fun _ a b c d v k => k (.mk v a b c d)) t v k
noncomputable def uo2a (p : Po1) (v : O) (t : N5 O (T1 O)) (k : N5 O (T1 O) → Res) : Res := @N5.rec O (T1 O) (fun _ => Po1 → O → (N5 O (T1 O) → Res) → Res) (fun u a b c d p v k => p v a fun x => k (.mk u x b c d)) t p v k
noncomputable def uo2b (p : Po1) (v : O) (t : N5 O (T1 O)) (k : N5 O (T1 O) → Res) : Res := @N5.rec O (T1 O) (fun _ => Po1 → O → (N5 O (T1 O) → Res) → Res) (fun u a b c d p v k => p v b fun x => k (.mk u a x c d)) t p v k
noncomputable def uo2c (p : Po1) (v : O) (t : N5 O (T1 O)) (k : N5 O (T1 O) → Res) : Res := @N5.rec O (T1 O) (fun _ => Po1 → O → (N5 O (T1 O) → Res) → Res) (fun u a b c d p v k => p v c fun x => k (.mk u a b x d)) t p v k
noncomputable def uo2d (p : Po1) (v : O) (t : N5 O (T1 O)) (k : N5 O (T1 O) → Res) : Res := @N5.rec O (T1 O) (fun _ => Po1 → O → (N5 O (T1 O) → Res) → Res) (fun u a b c d p v k => p v d fun x => k (.mk u a b c x)) t p v k
noncomputable def do2 : QN Q1 → Po2 := @QN.rec Q1 (fun _ => Po2) no2 (fun q => uo2a (do1 q)) (fun q => uo2b (do1 q)) (fun q => uo2c (do1 q)) (fun q => uo2d (do1 q))
noncomputable def eo3 : N5 O (T2 O) → (O → Res) → Res := @N5.rec O (T2 O) (fun _ => (O → Res) → Res) (fun v _ _ _ _ k => k v)
noncomputable def xo3a (g : T2 O → (O → Res) → Res) (t : N5 O (T2 O)) (k : O → Res) : Res := @N5.rec O (T2 O) (fun _ => (T2 O → (O → Res) → Res) → (O → Res) → Res) (fun _ a _ _ _ g k => g a k) t g k
noncomputable def xo3b (g : T2 O → (O → Res) → Res) (t : N5 O (T2 O)) (k : O → Res) : Res := @N5.rec O (T2 O) (fun _ => (T2 O → (O → Res) → Res) → (O → Res) → Res) (fun _ _ b _ _ g k => g b k) t g k
noncomputable def xo3c (g : T2 O → (O → Res) → Res) (t : N5 O (T2 O)) (k : O → Res) : Res := @N5.rec O (T2 O) (fun _ => (T2 O → (O → Res) → Res) → (O → Res) → Res) (fun _ _ _ c _ g k => g c k) t g k
noncomputable def xo3d (g : T2 O → (O → Res) → Res) (t : N5 O (T2 O)) (k : O → Res) : Res := @N5.rec O (T2 O) (fun _ => (T2 O → (O → Res) → Res) → (O → Res) → Res) (fun _ _ _ _ d g k => g d k) t g k
noncomputable def go3 : QN Q2 → N5 O (T2 O) → (O → Res) → Res := @QN.rec Q2 (fun _ => N5 O (T2 O) → (O → Res) → Res) eo3 (fun q => xo3a (go2 q)) (fun q => xo3b (go2 q)) (fun q => xo3c (go2 q)) (fun q => xo3d (go2 q))
abbrev Po3 := O → N5 O (T2 O) → (N5 O (T2 O) → Res) → Res
noncomputable def no3 (v : O) (t : N5 O (T2 O)) (k : N5 O (T2 O) → Res) : Res := @N5.rec O (T2 O) (fun _ => O → (N5 O (T2 O) → Res) → Res) (fun _ a b c d v k => k (.mk v a b c d)) t v k
noncomputable def uo3a (p : Po2) (v : O) (t : N5 O (T2 O)) (k : N5 O (T2 O) → Res) : Res := @N5.rec O (T2 O) (fun _ => Po2 → O → (N5 O (T2 O) → Res) → Res) (fun u a b c d p v k => p v a fun x => k (.mk u x b c d)) t p v k
noncomputable def uo3b (p : Po2) (v : O) (t : N5 O (T2 O)) (k : N5 O (T2 O) → Res) : Res := @N5.rec O (T2 O) (fun _ => Po2 → O → (N5 O (T2 O) → Res) → Res) (fun u a b c d p v k => p v b fun x => k (.mk u a x c d)) t p v k
noncomputable def uo3c (p : Po2) (v : O) (t : N5 O (T2 O)) (k : N5 O (T2 O) → Res) : Res := @N5.rec O (T2 O) (fun _ => Po2 → O → (N5 O (T2 O) → Res) → Res) (fun u a b c d p v k => p v c fun x => k (.mk u a b x d)) t p v k
noncomputable def uo3d (p : Po2) (v : O) (t : N5 O (T2 O)) (k : N5 O (T2 O) → Res) : Res := @N5.rec O (T2 O) (fun _ => Po2 → O → (N5 O (T2 O) → Res) → Res) (fun u a b c d p v k => p v d fun x => k (.mk u a b c x)) t p v k
noncomputable def do3 : QN Q2 → Po3 := @QN.rec Q2 (fun _ => Po3) no3 (fun q => uo3a (do2 q)) (fun q => uo3b (do2 q)) (fun q => uo3c (do2 q)) (fun q => uo3d (do2 q))
noncomputable def eo4 : N5 O (T3 O) → (O → Res) → Res := @N5.rec O (T3 O) (fun _ => (O → Res) → Res) (fun v _ _ _ _ k => k v)
noncomputable def xo4a (g : T3 O → (O → Res) → Res) (t : N5 O (T3 O)) (k : O → Res) : Res := @N5.rec O (T3 O) (fun _ => (T3 O → (O → Res) → Res) → (O → Res) → Res) (fun _ a _ _ _ g k => g a k) t g k
noncomputable def xo4b (g : T3 O → (O → Res) → Res) (t : N5 O (T3 O)) (k : O → Res) : Res := @N5.rec O (T3 O) (fun _ => (T3 O → (O → Res) → Res) → (O → Res) → Res) (fun _ _ b _ _ g k => g b k) t g k
noncomputable def xo4c (g : T3 O → (O → Res) → Res) (t : N5 O (T3 O)) (k : O → Res) : Res := @N5.rec O (T3 O) (fun _ => (T3 O → (O → Res) → Res) → (O → Res) → Res) (fun _ _ _ c _ g k => g c k) t g k
noncomputable def xo4d (g : T3 O → (O → Res) → Res) (t : N5 O (T3 O)) (k : O → Res) : Res := @N5.rec O (T3 O) (fun _ => (T3 O → (O → Res) → Res) → (O → Res) → Res) (fun _ _ _ _ d g k => g d k) t g k
noncomputable def go4 : QN Q3 → N5 O (T3 O) → (O → Res) → Res := @QN.rec Q3 (fun _ => N5 O (T3 O) → (O → Res) → Res) eo4 (fun q => xo4a (go3 q)) (fun q => xo4b (go3 q)) (fun q => xo4c (go3 q)) (fun q => xo4d (go3 q))
abbrev Po4 := O → N5 O (T3 O) → (N5 O (T3 O) → Res) → Res
noncomputable def no4 (v : O) (t : N5 O (T3 O)) (k : N5 O (T3 O) → Res) : Res := @N5.rec O (T3 O) (fun _ => O → (N5 O (T3 O) → Res) → Res) (fun _ a b c d v k => k (.mk v a b c d)) t v k
noncomputable def uo4a (p : Po3) (v : O) (t : N5 O (T3 O)) (k : N5 O (T3 O) → Res) : Res := @N5.rec O (T3 O) (fun _ => Po3 → O → (N5 O (T3 O) → Res) → Res) (fun u a b c d p v k => p v a fun x => k (.mk u x b c d)) t p v k
noncomputable def uo4b (p : Po3) (v : O) (t : N5 O (T3 O)) (k : N5 O (T3 O) → Res) : Res := @N5.rec O (T3 O) (fun _ => Po3 → O → (N5 O (T3 O) → Res) → Res) (fun u a b c d p v k => p v b fun x => k (.mk u a x c d)) t p v k
noncomputable def uo4c (p : Po3) (v : O) (t : N5 O (T3 O)) (k : N5 O (T3 O) → Res) : Res := @N5.rec O (T3 O) (fun _ => Po3 → O → (N5 O (T3 O) → Res) → Res) (fun u a b c d p v k => p v c fun x => k (.mk u a b x d)) t p v k
noncomputable def uo4d (p : Po3) (v : O) (t : N5 O (T3 O)) (k : N5 O (T3 O) → Res) : Res := @N5.rec O (T3 O) (fun _ => Po3 → O → (N5 O (T3 O) → Res) → Res) (fun u a b c d p v k => p v d fun x => k (.mk u a b c x)) t p v k
noncomputable def do4 : QN Q3 → Po4 := @QN.rec Q3 (fun _ => Po4) no4 (fun q => uo4a (do3 q)) (fun q => uo4b (do3 q)) (fun q => uo4c (do3 q)) (fun q => uo4d (do3 q))
noncomputable def eo5 : N5 O (T4 O) → (O → Res) → Res := @N5.rec O (T4 O) (fun _ => (O → Res) → Res) (fun v _ _ _ _ k => k v)
noncomputable def xo5a (g : T4 O → (O → Res) → Res) (t : N5 O (T4 O)) (k : O → Res) : Res := @N5.rec O (T4 O) (fun _ => (T4 O → (O → Res) → Res) → (O → Res) → Res) (fun _ a _ _ _ g k => g a k) t g k
noncomputable def xo5b (g : T4 O → (O → Res) → Res) (t : N5 O (T4 O)) (k : O → Res) : Res := @N5.rec O (T4 O) (fun _ => (T4 O → (O → Res) → Res) → (O → Res) → Res) (fun _ _ b _ _ g k => g b k) t g k
noncomputable def xo5c (g : T4 O → (O → Res) → Res) (t : N5 O (T4 O)) (k : O → Res) : Res := @N5.rec O (T4 O) (fun _ => (T4 O → (O → Res) → Res) → (O → Res) → Res) (fun _ _ _ c _ g k => g c k) t g k
noncomputable def xo5d (g : T4 O → (O → Res) → Res) (t : N5 O (T4 O)) (k : O → Res) : Res := @N5.rec O (T4 O) (fun _ => (T4 O → (O → Res) → Res) → (O → Res) → Res) (fun _ _ _ _ d g k => g d k) t g k
noncomputable def go5 : QN Q4 → N5 O (T4 O) → (O → Res) → Res := @QN.rec Q4 (fun _ => N5 O (T4 O) → (O → Res) → Res) eo5 (fun q => xo5a (go4 q)) (fun q => xo5b (go4 q)) (fun q => xo5c (go4 q)) (fun q => xo5d (go4 q))
abbrev Po5 := O → N5 O (T4 O) → (N5 O (T4 O) → Res) → Res
noncomputable def no5 (v : O) (t : N5 O (T4 O)) (k : N5 O (T4 O) → Res) : Res := @N5.rec O (T4 O) (fun _ => O → (N5 O (T4 O) → Res) → Res) (fun _ a b c d v k => k (.mk v a b c d)) t v k
noncomputable def uo5a (p : Po4) (v : O) (t : N5 O (T4 O)) (k : N5 O (T4 O) → Res) : Res := @N5.rec O (T4 O) (fun _ => Po4 → O → (N5 O (T4 O) → Res) → Res) (fun u a b c d p v k => p v a fun x => k (.mk u x b c d)) t p v k
noncomputable def uo5b (p : Po4) (v : O) (t : N5 O (T4 O)) (k : N5 O (T4 O) → Res) : Res := @N5.rec O (T4 O) (fun _ => Po4 → O → (N5 O (T4 O) → Res) → Res) (fun u a b c d p v k => p v b fun x => k (.mk u a x c d)) t p v k
noncomputable def uo5c (p : Po4) (v : O) (t : N5 O (T4 O)) (k : N5 O (T4 O) → Res) : Res := @N5.rec O (T4 O) (fun _ => Po4 → O → (N5 O (T4 O) → Res) → Res) (fun u a b c d p v k => p v c fun x => k (.mk u a b x d)) t p v k
noncomputable def uo5d (p : Po4) (v : O) (t : N5 O (T4 O)) (k : N5 O (T4 O) → Res) : Res := @N5.rec O (T4 O) (fun _ => Po4 → O → (N5 O (T4 O) → Res) → Res) (fun u a b c d p v k => p v d fun x => k (.mk u a b c x)) t p v k
noncomputable def do5 : QN Q4 → Po5 := @QN.rec Q4 (fun _ => Po5) no5 (fun q => uo5a (do4 q)) (fun q => uo5b (do4 q)) (fun q => uo5c (do4 q)) (fun q => uo5d (do4 q))
noncomputable def eo6 : N5 O (T5 O) → (O → Res) → Res := @N5.rec O (T5 O) (fun _ => (O → Res) → Res) (fun v _ _ _ _ k => k v)
noncomputable def xo6a (g : T5 O → (O → Res) → Res) (t : N5 O (T5 O)) (k : O → Res) : Res := @N5.rec O (T5 O) (fun _ => (T5 O → (O → Res) → Res) → (O → Res) → Res) (fun _ a _ _ _ g k => g a k) t g k
noncomputable def xo6b (g : T5 O → (O → Res) → Res) (t : N5 O (T5 O)) (k : O → Res) : Res := @N5.rec O (T5 O) (fun _ => (T5 O → (O → Res) → Res) → (O → Res) → Res) (fun _ _ b _ _ g k => g b k) t g k
noncomputable def xo6c (g : T5 O → (O → Res) → Res) (t : N5 O (T5 O)) (k : O → Res) : Res := @N5.rec O (T5 O) (fun _ => (T5 O → (O → Res) → Res) → (O → Res) → Res) (fun _ _ _ c _ g k => g c k) t g k
noncomputable def xo6d (g : T5 O → (O → Res) → Res) (t : N5 O (T5 O)) (k : O → Res) : Res := @N5.rec O (T5 O) (fun _ => (T5 O → (O → Res) → Res) → (O → Res) → Res) (fun _ _ _ _ d g k => g d k) t g k
noncomputable def go6 : QN Q5 → N5 O (T5 O) → (O → Res) → Res := @QN.rec Q5 (fun _ => N5 O (T5 O) → (O → Res) → Res) eo6 (fun q => xo6a (go5 q)) (fun q => xo6b (go5 q)) (fun q => xo6c (go5 q)) (fun q => xo6d (go5 q))
abbrev Po6 := O → N5 O (T5 O) → (N5 O (T5 O) → Res) → Res
noncomputable def no6 (v : O) (t : N5 O (T5 O)) (k : N5 O (T5 O) → Res) : Res := @N5.rec O (T5 O) (fun _ => O → (N5 O (T5 O) → Res) → Res) (fun _ a b c d v k => k (.mk v a b c d)) t v k
noncomputable def uo6a (p : Po5) (v : O) (t : N5 O (T5 O)) (k : N5 O (T5 O) → Res) : Res := @N5.rec O (T5 O) (fun _ => Po5 → O → (N5 O (T5 O) → Res) → Res) (fun u a b c d p v k => p v a fun x => k (.mk u x b c d)) t p v k
noncomputable def uo6b (p : Po5) (v : O) (t : N5 O (T5 O)) (k : N5 O (T5 O) → Res) : Res := @N5.rec O (T5 O) (fun _ => Po5 → O → (N5 O (T5 O) → Res) → Res) (fun u a b c d p v k => p v b fun x => k (.mk u a x c d)) t p v k
noncomputable def uo6c (p : Po5) (v : O) (t : N5 O (T5 O)) (k : N5 O (T5 O) → Res) : Res := @N5.rec O (T5 O) (fun _ => Po5 → O → (N5 O (T5 O) → Res) → Res) (fun u a b c d p v k => p v c fun x => k (.mk u a b x d)) t p v k
noncomputable def uo6d (p : Po5) (v : O) (t : N5 O (T5 O)) (k : N5 O (T5 O) → Res) : Res := @N5.rec O (T5 O) (fun _ => Po5 → O → (N5 O (T5 O) → Res) → Res) (fun u a b c d p v k => p v d fun x => k (.mk u a b c x)) t p v k
noncomputable def do6 : QN Q5 → Po6 := @QN.rec Q5 (fun _ => Po6) no6 (fun q => uo6a (do5 q)) (fun q => uo6b (do5 q)) (fun q => uo6c (do5 q)) (fun q => uo6d (do5 q))
noncomputable def eo7 : N5 O (T6 O) → (O → Res) → Res := @N5.rec O (T6 O) (fun _ => (O → Res) → Res) (fun v _ _ _ _ k => k v)
noncomputable def xo7a (g : T6 O → (O → Res) → Res) (t : N5 O (T6 O)) (k : O → Res) : Res := @N5.rec O (T6 O) (fun _ => (T6 O → (O → Res) → Res) → (O → Res) → Res) (fun _ a _ _ _ g k => g a k) t g k
noncomputable def xo7b (g : T6 O → (O → Res) → Res) (t : N5 O (T6 O)) (k : O → Res) : Res := @N5.rec O (T6 O) (fun _ => (T6 O → (O → Res) → Res) → (O → Res) → Res) (fun _ _ b _ _ g k => g b k) t g k
noncomputable def xo7c (g : T6 O → (O → Res) → Res) (t : N5 O (T6 O)) (k : O → Res) : Res := @N5.rec O (T6 O) (fun _ => (T6 O → (O → Res) → Res) → (O → Res) → Res) (fun _ _ _ c _ g k => g c k) t g k
noncomputable def xo7d (g : T6 O → (O → Res) → Res) (t : N5 O (T6 O)) (k : O → Res) : Res := @N5.rec O (T6 O) (fun _ => (T6 O → (O → Res) → Res) → (O → Res) → Res) (fun _ _ _ _ d g k => g d k) t g k
noncomputable def go7 : QN Q6 → N5 O (T6 O) → (O → Res) → Res := @QN.rec Q6 (fun _ => N5 O (T6 O) → (O → Res) → Res) eo7 (fun q => xo7a (go6 q)) (fun q => xo7b (go6 q)) (fun q => xo7c (go6 q)) (fun q => xo7d (go6 q))
abbrev Po7 := O → N5 O (T6 O) → (N5 O (T6 O) → Res) → Res
noncomputable def no7 (v : O) (t : N5 O (T6 O)) (k : N5 O (T6 O) → Res) : Res := @N5.rec O (T6 O) (fun _ => O → (N5 O (T6 O) → Res) → Res) (fun _ a b c d v k => k (.mk v a b c d)) t v k
noncomputable def uo7a (p : Po6) (v : O) (t : N5 O (T6 O)) (k : N5 O (T6 O) → Res) : Res := @N5.rec O (T6 O) (fun _ => Po6 → O → (N5 O (T6 O) → Res) → Res) (fun u a b c d p v k => p v a fun x => k (.mk u x b c d)) t p v k
noncomputable def uo7b (p : Po6) (v : O) (t : N5 O (T6 O)) (k : N5 O (T6 O) → Res) : Res := @N5.rec O (T6 O) (fun _ => Po6 → O → (N5 O (T6 O) → Res) → Res) (fun u a b c d p v k => p v b fun x => k (.mk u a x c d)) t p v k
noncomputable def uo7c (p : Po6) (v : O) (t : N5 O (T6 O)) (k : N5 O (T6 O) → Res) : Res := @N5.rec O (T6 O) (fun _ => Po6 → O → (N5 O (T6 O) → Res) → Res) (fun u a b c d p v k => p v c fun x => k (.mk u a b x d)) t p v k
noncomputable def uo7d (p : Po6) (v : O) (t : N5 O (T6 O)) (k : N5 O (T6 O) → Res) : Res := @N5.rec O (T6 O) (fun _ => Po6 → O → (N5 O (T6 O) → Res) → Res) (fun u a b c d p v k => p v d fun x => k (.mk u a b c x)) t p v k
noncomputable def do7 : QN Q6 → Po7 := @QN.rec Q6 (fun _ => Po7) no7 (fun q => uo7a (do6 q)) (fun q => uo7b (do6 q)) (fun q => uo7c (do6 q)) (fun q => uo7d (do6 q))
noncomputable def eo8 : N5 O (T7 O) → (O → Res) → Res := @N5.rec O (T7 O) (fun _ => (O → Res) → Res) (fun v _ _ _ _ k => k v)
noncomputable def xo8a (g : T7 O → (O → Res) → Res) (t : N5 O (T7 O)) (k : O → Res) : Res := @N5.rec O (T7 O) (fun _ => (T7 O → (O → Res) → Res) → (O → Res) → Res) (fun _ a _ _ _ g k => g a k) t g k
noncomputable def xo8b (g : T7 O → (O → Res) → Res) (t : N5 O (T7 O)) (k : O → Res) : Res := @N5.rec O (T7 O) (fun _ => (T7 O → (O → Res) → Res) → (O → Res) → Res) (fun _ _ b _ _ g k => g b k) t g k
noncomputable def xo8c (g : T7 O → (O → Res) → Res) (t : N5 O (T7 O)) (k : O → Res) : Res := @N5.rec O (T7 O) (fun _ => (T7 O → (O → Res) → Res) → (O → Res) → Res) (fun _ _ _ c _ g k => g c k) t g k
noncomputable def xo8d (g : T7 O → (O → Res) → Res) (t : N5 O (T7 O)) (k : O → Res) : Res := @N5.rec O (T7 O) (fun _ => (T7 O → (O → Res) → Res) → (O → Res) → Res) (fun _ _ _ _ d g k => g d k) t g k
noncomputable def go8 : QN Q7 → N5 O (T7 O) → (O → Res) → Res := @QN.rec Q7 (fun _ => N5 O (T7 O) → (O → Res) → Res) eo8 (fun q => xo8a (go7 q)) (fun q => xo8b (go7 q)) (fun q => xo8c (go7 q)) (fun q => xo8d (go7 q))
abbrev Po8 := O → N5 O (T7 O) → (N5 O (T7 O) → Res) → Res
noncomputable def no8 (v : O) (t : N5 O (T7 O)) (k : N5 O (T7 O) → Res) : Res := @N5.rec O (T7 O) (fun _ => O → (N5 O (T7 O) → Res) → Res) (fun _ a b c d v k => k (.mk v a b c d)) t v k
noncomputable def uo8a (p : Po7) (v : O) (t : N5 O (T7 O)) (k : N5 O (T7 O) → Res) : Res := @N5.rec O (T7 O) (fun _ => Po7 → O → (N5 O (T7 O) → Res) → Res) (fun u a b c d p v k => p v a fun x => k (.mk u x b c d)) t p v k
noncomputable def uo8b (p : Po7) (v : O) (t : N5 O (T7 O)) (k : N5 O (T7 O) → Res) : Res := @N5.rec O (T7 O) (fun _ => Po7 → O → (N5 O (T7 O) → Res) → Res) (fun u a b c d p v k => p v b fun x => k (.mk u a x c d)) t p v k
noncomputable def uo8c (p : Po7) (v : O) (t : N5 O (T7 O)) (k : N5 O (T7 O) → Res) : Res := @N5.rec O (T7 O) (fun _ => Po7 → O → (N5 O (T7 O) → Res) → Res) (fun u a b c d p v k => p v c fun x => k (.mk u a b x d)) t p v k
noncomputable def uo8d (p : Po7) (v : O) (t : N5 O (T7 O)) (k : N5 O (T7 O) → Res) : Res := @N5.rec O (T7 O) (fun _ => Po7 → O → (N5 O (T7 O) → Res) → Res) (fun u a b c d p v k => p v d fun x => k (.mk u a b c x)) t p v k
noncomputable def do8 : QN Q7 → Po8 := @QN.rec Q7 (fun _ => Po8) no8 (fun q => uo8a (do7 q)) (fun q => uo8b (do7 q)) (fun q => uo8c (do7 q)) (fun q => uo8d (do7 q))
noncomputable def eo9 : N5 O (T8 O) → (O → Res) → Res := @N5.rec O (T8 O) (fun _ => (O → Res) → Res) (fun v _ _ _ _ k => k v)
noncomputable def xo9a (g : T8 O → (O → Res) → Res) (t : N5 O (T8 O)) (k : O → Res) : Res := @N5.rec O (T8 O) (fun _ => (T8 O → (O → Res) → Res) → (O → Res) → Res) (fun _ a _ _ _ g k => g a k) t g k
noncomputable def xo9b (g : T8 O → (O → Res) → Res) (t : N5 O (T8 O)) (k : O → Res) : Res := @N5.rec O (T8 O) (fun _ => (T8 O → (O → Res) → Res) → (O → Res) → Res) (fun _ _ b _ _ g k => g b k) t g k
noncomputable def xo9c (g : T8 O → (O → Res) → Res) (t : N5 O (T8 O)) (k : O → Res) : Res := @N5.rec O (T8 O) (fun _ => (T8 O → (O → Res) → Res) → (O → Res) → Res) (fun _ _ _ c _ g k => g c k) t g k
noncomputable def xo9d (g : T8 O → (O → Res) → Res) (t : N5 O (T8 O)) (k : O → Res) : Res := @N5.rec O (T8 O) (fun _ => (T8 O → (O → Res) → Res) → (O → Res) → Res) (fun _ _ _ _ d g k => g d k) t g k
noncomputable def go9 : QN Q8 → N5 O (T8 O) → (O → Res) → Res := @QN.rec Q8 (fun _ => N5 O (T8 O) → (O → Res) → Res) eo9 (fun q => xo9a (go8 q)) (fun q => xo9b (go8 q)) (fun q => xo9c (go8 q)) (fun q => xo9d (go8 q))
abbrev Po9 := O → N5 O (T8 O) → (N5 O (T8 O) → Res) → Res
noncomputable def no9 (v : O) (t : N5 O (T8 O)) (k : N5 O (T8 O) → Res) : Res := @N5.rec O (T8 O) (fun _ => O → (N5 O (T8 O) → Res) → Res) (fun _ a b c d v k => k (.mk v a b c d)) t v k
noncomputable def uo9a (p : Po8) (v : O) (t : N5 O (T8 O)) (k : N5 O (T8 O) → Res) : Res := @N5.rec O (T8 O) (fun _ => Po8 → O → (N5 O (T8 O) → Res) → Res) (fun u a b c d p v k => p v a fun x => k (.mk u x b c d)) t p v k
noncomputable def uo9b (p : Po8) (v : O) (t : N5 O (T8 O)) (k : N5 O (T8 O) → Res) : Res := @N5.rec O (T8 O) (fun _ => Po8 → O → (N5 O (T8 O) → Res) → Res) (fun u a b c d p v k => p v b fun x => k (.mk u a x c d)) t p v k
noncomputable def uo9c (p : Po8) (v : O) (t : N5 O (T8 O)) (k : N5 O (T8 O) → Res) : Res := @N5.rec O (T8 O) (fun _ => Po8 → O → (N5 O (T8 O) → Res) → Res) (fun u a b c d p v k => p v c fun x => k (.mk u a b x d)) t p v k
noncomputable def uo9d (p : Po8) (v : O) (t : N5 O (T8 O)) (k : N5 O (T8 O) → Res) : Res := @N5.rec O (T8 O) (fun _ => Po8 → O → (N5 O (T8 O) → Res) → Res) (fun u a b c d p v k => p v d fun x => k (.mk u a b c x)) t p v k
noncomputable def do9 : QN Q8 → Po9 := @QN.rec Q8 (fun _ => Po9) no9 (fun q => uo9a (do8 q)) (fun q => uo9b (do8 q)) (fun q => uo9c (do8 q)) (fun q => uo9d (do8 q))
noncomputable def eo10 : N5 O (T9 O) → (O → Res) → Res := @N5.rec O (T9 O) (fun _ => (O → Res) → Res) (fun v _ _ _ _ k => k v)
noncomputable def xo10a (g : T9 O → (O → Res) → Res) (t : N5 O (T9 O)) (k : O → Res) : Res := @N5.rec O (T9 O) (fun _ => (T9 O → (O → Res) → Res) → (O → Res) → Res) (fun _ a _ _ _ g k => g a k) t g k
noncomputable def xo10b (g : T9 O → (O → Res) → Res) (t : N5 O (T9 O)) (k : O → Res) : Res := @N5.rec O (T9 O) (fun _ => (T9 O → (O → Res) → Res) → (O → Res) → Res) (fun _ _ b _ _ g k => g b k) t g k
noncomputable def xo10c (g : T9 O → (O → Res) → Res) (t : N5 O (T9 O)) (k : O → Res) : Res := @N5.rec O (T9 O) (fun _ => (T9 O → (O → Res) → Res) → (O → Res) → Res) (fun _ _ _ c _ g k => g c k) t g k
noncomputable def xo10d (g : T9 O → (O → Res) → Res) (t : N5 O (T9 O)) (k : O → Res) : Res := @N5.rec O (T9 O) (fun _ => (T9 O → (O → Res) → Res) → (O → Res) → Res) (fun _ _ _ _ d g k => g d k) t g k
noncomputable def go10 : QN Q9 → N5 O (T9 O) → (O → Res) → Res := @QN.rec Q9 (fun _ => N5 O (T9 O) → (O → Res) → Res) eo10 (fun q => xo10a (go9 q)) (fun q => xo10b (go9 q)) (fun q => xo10c (go9 q)) (fun q => xo10d (go9 q))
abbrev Po10 := O → N5 O (T9 O) → (N5 O (T9 O) → Res) → Res
noncomputable def no10 (v : O) (t : N5 O (T9 O)) (k : N5 O (T9 O) → Res) : Res := @N5.rec O (T9 O) (fun _ => O → (N5 O (T9 O) → Res) → Res) (fun _ a b c d v k => k (.mk v a b c d)) t v k
noncomputable def uo10a (p : Po9) (v : O) (t : N5 O (T9 O)) (k : N5 O (T9 O) → Res) : Res := @N5.rec O (T9 O) (fun _ => Po9 → O → (N5 O (T9 O) → Res) → Res) (fun u a b c d p v k => p v a fun x => k (.mk u x b c d)) t p v k
noncomputable def uo10b (p : Po9) (v : O) (t : N5 O (T9 O)) (k : N5 O (T9 O) → Res) : Res := @N5.rec O (T9 O) (fun _ => Po9 → O → (N5 O (T9 O) → Res) → Res) (fun u a b c d p v k => p v b fun x => k (.mk u a x c d)) t p v k
noncomputable def uo10c (p : Po9) (v : O) (t : N5 O (T9 O)) (k : N5 O (T9 O) → Res) : Res := @N5.rec O (T9 O) (fun _ => Po9 → O → (N5 O (T9 O) → Res) → Res) (fun u a b c d p v k => p v c fun x => k (.mk u a b x d)) t p v k
noncomputable def uo10d (p : Po9) (v : O) (t : N5 O (T9 O)) (k : N5 O (T9 O) → Res) : Res := @N5.rec O (T9 O) (fun _ => Po9 → O → (N5 O (T9 O) → Res) → Res) (fun u a b c d p v k => p v d fun x => k (.mk u a b c x)) t p v k
noncomputable def do10 : QN Q9 → Po10 := @QN.rec Q9 (fun _ => Po10) no10 (fun q => uo10a (do9 q)) (fun q => uo10b (do9 q)) (fun q => uo10c (do9 q)) (fun q => uo10d (do9 q))
def sq0 (q : QR) (k : QR → Res) : Res := k q.succ
def bq0F (p q : QR) : Bool := p.beq q
noncomputable def sq1 : QN QR → (QN QR → Res) → Res := @QN.rec QR (fun _ => (QN QR → Res) → Res) (fun k => k (.a QR.e)) (fun q k => k (.b q)) (fun q k => k (.c q)) (fun q k => k (.d q)) (fun q k => sq0 q fun p => k (.a p))
noncomputable def bq1F : QN QR → QN QR → Bool := @QN.rec QR (fun _ => QN QR → Bool) (fun p => @QN.rec QR (fun _ => Bool) true (fun _ => false) (fun _ => false) (fun _ => false) (fun _ => false) p) (fun q p => @QN.rec QR (fun _ => QR → Bool) (fun _ => false) (fun p q => bq0F q p) (fun _ _ => false) (fun _ _ => false) (fun _ _ => false) p q) (fun q p => @QN.rec QR (fun _ => QR → Bool) (fun _ => false) (fun _ _ => false) (fun p q => bq0F q p) (fun _ _ => false) (fun _ _ => false) p q) (fun q p => @QN.rec QR (fun _ => QR → Bool) (fun _ => false) (fun _ _ => false) (fun _ _ => false) (fun p q => bq0F q p) (fun _ _ => false) p q) (fun q p => @QN.rec QR (fun _ => QR → Bool) (fun _ => false) (fun _ _ => false) (fun _ _ => false) (fun _ _ => false) (fun p q => bq0F q p) p q)
noncomputable def sq2 : QN Q1 → (QN Q1 → Res) → Res := @QN.rec Q1 (fun _ => (QN Q1 → Res) → Res) (fun k => k (.a (QN.e (α := QR)))) (fun q k => k (.b q)) (fun q k => k (.c q)) (fun q k => k (.d q)) (fun q k => sq1 q fun p => k (.a p))
noncomputable def bq2F : QN Q1 → QN Q1 → Bool := @QN.rec Q1 (fun _ => QN Q1 → Bool) (fun p => @QN.rec Q1 (fun _ => Bool) true (fun _ => false) (fun _ => false) (fun _ => false) (fun _ => false) p) (fun q p => @QN.rec Q1 (fun _ => Q1 → Bool) (fun _ => false) (fun p q => bq1F q p) (fun _ _ => false) (fun _ _ => false) (fun _ _ => false) p q) (fun q p => @QN.rec Q1 (fun _ => Q1 → Bool) (fun _ => false) (fun _ _ => false) (fun p q => bq1F q p) (fun _ _ => false) (fun _ _ => false) p q) (fun q p => @QN.rec Q1 (fun _ => Q1 → Bool) (fun _ => false) (fun _ _ => false) (fun _ _ => false) (fun p q => bq1F q p) (fun _ _ => false) p q) (fun q p => @QN.rec Q1 (fun _ => Q1 → Bool) (fun _ => false) (fun _ _ => false) (fun _ _ => false) (fun _ _ => false) (fun p q => bq1F q p) p q)
noncomputable def sq3 : QN Q2 → (QN Q2 → Res) → Res := @QN.rec Q2 (fun _ => (QN Q2 → Res) → Res) (fun k => k (.a (QN.e (α := Q1)))) (fun q k => k (.b q)) (fun q k => k (.c q)) (fun q k => k (.d q)) (fun q k => sq2 q fun p => k (.a p))
noncomputable def bq3F : QN Q2 → QN Q2 → Bool := @QN.rec Q2 (fun _ => QN Q2 → Bool) (fun p => @QN.rec Q2 (fun _ => Bool) true (fun _ => false) (fun _ => false) (fun _ => false) (fun _ => false) p) (fun q p => @QN.rec Q2 (fun _ => Q2 → Bool) (fun _ => false) (fun p q => bq2F q p) (fun _ _ => false) (fun _ _ => false) (fun _ _ => false) p q) (fun q p => @QN.rec Q2 (fun _ => Q2 → Bool) (fun _ => false) (fun _ _ => false) (fun p q => bq2F q p) (fun _ _ => false) (fun _ _ => false) p q) (fun q p => @QN.rec Q2 (fun _ => Q2 → Bool) (fun _ => false) (fun _ _ => false) (fun _ _ => false) (fun p q => bq2F q p) (fun _ _ => false) p q) (fun q p => @QN.rec Q2 (fun _ => Q2 → Bool) (fun _ => false) (fun _ _ => false) (fun _ _ => false) (fun _ _ => false) (fun p q => bq2F q p) p q)
noncomputable def sq4 : QN Q3 → (QN Q3 → Res) → Res := @QN.rec Q3 (fun _ => (QN Q3 → Res) → Res) (fun k => k (.a (QN.e (α := Q2)))) (fun q k => k (.b q)) (fun q k => k (.c q)) (fun q k => k (.d q)) (fun q k => sq3 q fun p => k (.a p))
noncomputable def bq4F : QN Q3 → QN Q3 → Bool := @QN.rec Q3 (fun _ => QN Q3 → Bool) (fun p => @QN.rec Q3 (fun _ => Bool) true (fun _ => false) (fun _ => false) (fun _ => false) (fun _ => false) p) (fun q p => @QN.rec Q3 (fun _ => Q3 → Bool) (fun _ => false) (fun p q => bq3F q p) (fun _ _ => false) (fun _ _ => false) (fun _ _ => false) p q) (fun q p => @QN.rec Q3 (fun _ => Q3 → Bool) (fun _ => false) (fun _ _ => false) (fun p q => bq3F q p) (fun _ _ => false) (fun _ _ => false) p q) (fun q p => @QN.rec Q3 (fun _ => Q3 → Bool) (fun _ => false) (fun _ _ => false) (fun _ _ => false) (fun p q => bq3F q p) (fun _ _ => false) p q) (fun q p => @QN.rec Q3 (fun _ => Q3 → Bool) (fun _ => false) (fun _ _ => false) (fun _ _ => false) (fun _ _ => false) (fun p q => bq3F q p) p q)
noncomputable def sq5 : QN Q4 → (QN Q4 → Res) → Res := @QN.rec Q4 (fun _ => (QN Q4 → Res) → Res) (fun k => k (.a (QN.e (α := Q3)))) (fun q k => k (.b q)) (fun q k => k (.c q)) (fun q k => k (.d q)) (fun q k => sq4 q fun p => k (.a p))
noncomputable def bq5F : QN Q4 → QN Q4 → Bool := @QN.rec Q4 (fun _ => QN Q4 → Bool) (fun p => @QN.rec Q4 (fun _ => Bool) true (fun _ => false) (fun _ => false) (fun _ => false) (fun _ => false) p) (fun q p => @QN.rec Q4 (fun _ => Q4 → Bool) (fun _ => false) (fun p q => bq4F q p) (fun _ _ => false) (fun _ _ => false) (fun _ _ => false) p q) (fun q p => @QN.rec Q4 (fun _ => Q4 → Bool) (fun _ => false) (fun _ _ => false) (fun p q => bq4F q p) (fun _ _ => false) (fun _ _ => false) p q) (fun q p => @QN.rec Q4 (fun _ => Q4 → Bool) (fun _ => false) (fun _ _ => false) (fun _ _ => false) (fun p q => bq4F q p) (fun _ _ => false) p q) (fun q p => @QN.rec Q4 (fun _ => Q4 → Bool) (fun _ => false) (fun _ _ => false) (fun _ _ => false) (fun _ _ => false) (fun p q => bq4F q p) p q)
noncomputable def sq6 : QN Q5 → (QN Q5 → Res) → Res := @QN.rec Q5 (fun _ => (QN Q5 → Res) → Res) (fun k => k (.a (QN.e (α := Q4)))) (fun q k => k (.b q)) (fun q k => k (.c q)) (fun q k => k (.d q)) (fun q k => sq5 q fun p => k (.a p))
noncomputable def bq6F : QN Q5 → QN Q5 → Bool := @QN.rec Q5 (fun _ => QN Q5 → Bool) (fun p => @QN.rec Q5 (fun _ => Bool) true (fun _ => false) (fun _ => false) (fun _ => false) (fun _ => false) p) (fun q p => @QN.rec Q5 (fun _ => Q5 → Bool) (fun _ => false) (fun p q => bq5F q p) (fun _ _ => false) (fun _ _ => false) (fun _ _ => false) p q) (fun q p => @QN.rec Q5 (fun _ => Q5 → Bool) (fun _ => false) (fun _ _ => false) (fun p q => bq5F q p) (fun _ _ => false) (fun _ _ => false) p q) (fun q p => @QN.rec Q5 (fun _ => Q5 → Bool) (fun _ => false) (fun _ _ => false) (fun _ _ => false) (fun p q => bq5F q p) (fun _ _ => false) p q) (fun q p => @QN.rec Q5 (fun _ => Q5 → Bool) (fun _ => false) (fun _ _ => false) (fun _ _ => false) (fun _ _ => false) (fun p q => bq5F q p) p q)
noncomputable def sq7 : QN Q6 → (QN Q6 → Res) → Res := @QN.rec Q6 (fun _ => (QN Q6 → Res) → Res) (fun k => k (.a (QN.e (α := Q5)))) (fun q k => k (.b q)) (fun q k => k (.c q)) (fun q k => k (.d q)) (fun q k => sq6 q fun p => k (.a p))
noncomputable def bq7F : QN Q6 → QN Q6 → Bool := @QN.rec Q6 (fun _ => QN Q6 → Bool) (fun p => @QN.rec Q6 (fun _ => Bool) true (fun _ => false) (fun _ => false) (fun _ => false) (fun _ => false) p) (fun q p => @QN.rec Q6 (fun _ => Q6 → Bool) (fun _ => false) (fun p q => bq6F q p) (fun _ _ => false) (fun _ _ => false) (fun _ _ => false) p q) (fun q p => @QN.rec Q6 (fun _ => Q6 → Bool) (fun _ => false) (fun _ _ => false) (fun p q => bq6F q p) (fun _ _ => false) (fun _ _ => false) p q) (fun q p => @QN.rec Q6 (fun _ => Q6 → Bool) (fun _ => false) (fun _ _ => false) (fun _ _ => false) (fun p q => bq6F q p) (fun _ _ => false) p q) (fun q p => @QN.rec Q6 (fun _ => Q6 → Bool) (fun _ => false) (fun _ _ => false) (fun _ _ => false) (fun _ _ => false) (fun p q => bq6F q p) p q)
noncomputable def sq8 : QN Q7 → (QN Q7 → Res) → Res := @QN.rec Q7 (fun _ => (QN Q7 → Res) → Res) (fun k => k (.a (QN.e (α := Q6)))) (fun q k => k (.b q)) (fun q k => k (.c q)) (fun q k => k (.d q)) (fun q k => sq7 q fun p => k (.a p))
noncomputable def bq8F : QN Q7 → QN Q7 → Bool := @QN.rec Q7 (fun _ => QN Q7 → Bool) (fun p => @QN.rec Q7 (fun _ => Bool) true (fun _ => false) (fun _ => false) (fun _ => false) (fun _ => false) p) (fun q p => @QN.rec Q7 (fun _ => Q7 → Bool) (fun _ => false) (fun p q => bq7F q p) (fun _ _ => false) (fun _ _ => false) (fun _ _ => false) p q) (fun q p => @QN.rec Q7 (fun _ => Q7 → Bool) (fun _ => false) (fun _ _ => false) (fun p q => bq7F q p) (fun _ _ => false) (fun _ _ => false) p q) (fun q p => @QN.rec Q7 (fun _ => Q7 → Bool) (fun _ => false) (fun _ _ => false) (fun _ _ => false) (fun p q => bq7F q p) (fun _ _ => false) p q) (fun q p => @QN.rec Q7 (fun _ => Q7 → Bool) (fun _ => false) (fun _ _ => false) (fun _ _ => false) (fun _ _ => false) (fun p q => bq7F q p) p q)
noncomputable def sq9 : QN Q8 → (QN Q8 → Res) → Res := @QN.rec Q8 (fun _ => (QN Q8 → Res) → Res) (fun k => k (.a (QN.e (α := Q7)))) (fun q k => k (.b q)) (fun q k => k (.c q)) (fun q k => k (.d q)) (fun q k => sq8 q fun p => k (.a p))
noncomputable def bq9F : QN Q8 → QN Q8 → Bool := @QN.rec Q8 (fun _ => QN Q8 → Bool) (fun p => @QN.rec Q8 (fun _ => Bool) true (fun _ => false) (fun _ => false) (fun _ => false) (fun _ => false) p) (fun q p => @QN.rec Q8 (fun _ => Q8 → Bool) (fun _ => false) (fun p q => bq8F q p) (fun _ _ => false) (fun _ _ => false) (fun _ _ => false) p q) (fun q p => @QN.rec Q8 (fun _ => Q8 → Bool) (fun _ => false) (fun _ _ => false) (fun p q => bq8F q p) (fun _ _ => false) (fun _ _ => false) p q) (fun q p => @QN.rec Q8 (fun _ => Q8 → Bool) (fun _ => false) (fun _ _ => false) (fun _ _ => false) (fun p q => bq8F q p) (fun _ _ => false) p q) (fun q p => @QN.rec Q8 (fun _ => Q8 → Bool) (fun _ => false) (fun _ _ => false) (fun _ _ => false) (fun _ _ => false) (fun p q => bq8F q p) p q)
noncomputable def sq10 : QN Q9 → (QN Q9 → Res) → Res := @QN.rec Q9 (fun _ => (QN Q9 → Res) → Res) (fun k => k (.a (QN.e (α := Q8)))) (fun q k => k (.b q)) (fun q k => k (.c q)) (fun q k => k (.d q)) (fun q k => sq9 q fun p => k (.a p))
noncomputable def bq10F : QN Q9 → QN Q9 → Bool := @QN.rec Q9 (fun _ => QN Q9 → Bool) (fun p => @QN.rec Q9 (fun _ => Bool) true (fun _ => false) (fun _ => false) (fun _ => false) (fun _ => false) p) (fun q p => @QN.rec Q9 (fun _ => Q9 → Bool) (fun _ => false) (fun p q => bq9F q p) (fun _ _ => false) (fun _ _ => false) (fun _ _ => false) p q) (fun q p => @QN.rec Q9 (fun _ => Q9 → Bool) (fun _ => false) (fun _ _ => false) (fun p q => bq9F q p) (fun _ _ => false) (fun _ _ => false) p q) (fun q p => @QN.rec Q9 (fun _ => Q9 → Bool) (fun _ => false) (fun _ _ => false) (fun _ _ => false) (fun p q => bq9F q p) (fun _ _ => false) p q) (fun q p => @QN.rec Q9 (fun _ => Q9 → Bool) (fun _ => false) (fun _ _ => false) (fun _ _ => false) (fun _ _ => false) (fun p q => bq9F q p) p q)
structure S where
  h : T O
  nx : Q
  ds : List Df
abbrev St := T V → S → Res
abbrev Kr := V → T O → Q → Res
abbrev Kw := V → T O → Q → Res
abbrev Cl := V → List V → Bool → T O → Q → Kr → Res
structure Cx where
  cl : Cl
  f : Q
  rd : Option Q
  env : List (Nat × St)
  kr : St
  ky : Kr
abbrev Xg := T V → (V → Res) → Res
abbrev Xs := T V → (List V → Res) → Res
abbrev Dt := V → T V → (T V → Res) → Res
abbrev Pg := T V → T O → (V → Res) → Res
abbrev Ag := T V → (O → (Q → V) → Res) → Res
abbrev Wg := T V → T O → Q → Kw → Res
abbrev Op := Cx → St → St
structure D where
  run : Op
noncomputable def gvT (q : Q) (t : T V) (k : V → Res) : Res := gv10 q t k
noncomputable def goT (q : Q) (t : T O) (k : O → Res) : Res := go10 q t k
noncomputable def dvT (q : Q) (v : V) (t : T V) (k : T V → Res) : Res := dv10 q v t k
noncomputable def doT (q : Q) (v : O) (t : T O) (k : T O → Res) : Res := do10 q v t k
noncomputable def sqT (q : Q) (k : Q → Res) : Res := sq10 q k
def stBad : St := fun _ _ => .bad 200
def stBad4 : St := fun _ _ => .bad 4
def krBad : Kr := fun _ _ _ => .bad 201
noncomputable def fN (n : Nat) (k : Nat → Res) : Res := @Nat.rec (fun _ => (Nat → Res) → Res) (fun k => k (nat_lit 0)) (fun m _ k => k (Nat.succ m)) n k
noncomputable def gdF : Bool → Nat → Res → Res := @Bool.rec (fun _ => Nat → Res → Res) (fun n _ => .bad n) (fun _ k => k)
noncomputable def iN : Int → (Nat → Res) → Res := @Int.rec (fun _ => (Nat → Res) → Res) (fun m k => k m) (fun _ _ => .bad 5)
noncomputable def ikNF : IntKind → Nat := @IntKind.rec (fun _ => Nat) (nat_lit 0) (nat_lit 1) (nat_lit 2) (nat_lit 3) (nat_lit 4) (nat_lit 5) (nat_lit 6) (nat_lit 7)
noncomputable def ikMF : IntKind → Nat := @IntKind.rec (fun _ => Nat) (nat_lit 127) (nat_lit 32767) (nat_lit 2147483647) (nat_lit 9223372036854775807) (nat_lit 255) (nat_lit 65535) (nat_lit 4294967295) (nat_lit 18446744073709551615)
def powF (l : Nat) : Nat := Nat.pow (nat_lit 2) (Nat.mul (nat_lit 8) l)
noncomputable def andF : Bool → Bool → Bool := @Bool.rec (fun _ => Bool → Bool) (fun _ => false) (fun b => b)
noncomputable def notF : Bool → Bool := @Bool.rec (fun _ => Bool) true false
noncomputable def beqF : Bool → Bool → Bool := @Bool.rec (fun _ => Bool → Bool) notF (fun b => b)
noncomputable def ifF : Bool → Res → Res → Res := @Bool.rec (fun _ => Res → Res → Res) (fun _ b => b) (fun a _ => a)
noncomputable def bF : Bool → (V → Res) → Res := @Bool.rec (fun _ => (V → Res) → Res) (fun k => k (.bool false)) (fun k => k (.bool true))
noncomputable def nbF : Bool → Bool → (V → Res) → Res := @Bool.rec (fun _ => Bool → (V → Res) → Res) bF (fun t k => bF (notF t) k)
noncomputable def boolF : Bool → St → St → St := @Bool.rec (fun _ => St → St → St) (fun _ b => b) (fun a _ => a)
noncomputable def boolEqF (b w : Bool) (go skip : St) : St := boolF (beqF b w) go skip
noncomputable def nilLF : List V → St → St := @List.rec V (fun _ => St → St) (fun s => s) (fun _ _ _ _ => stBad)
noncomputable def fI : Int → (Int → Res) → Res := @Int.rec (fun _ => (Int → Res) → Res) (fun m k => fN m fun m => k (.ofNat m)) (fun m k => fN m fun m => k (.negSucc m))
def wrapS (kd : IntKind) (n : Int) : Int := kd.wrap n
noncomputable def wrapI (kd : IntKind) (n : Int) (k : V → Res) : Res := fI (wrapS kd n) fun n => k (.int kd n)
noncomputable def wrapN (m : Nat) (kd : IntKind) (k : V → Res) : Res :=
  @Bool.rec (fun _ => Nat → IntKind → (V → Res) → Res) (fun m kd k => wrapI kd (.ofNat m) k) (fun m kd k => k (.int kd (.ofNat m))) (Nat.ble m (ikMF kd)) m kd k
noncomputable def wrapF : Int → IntKind → (V → Res) → Res :=
  @Int.rec (fun _ => IntKind → (V → Res) → Res) (fun m kd k => fN m fun m => wrapN m kd k) (fun m kd k => wrapI kd (.negSucc m) k)
def addS (a b : Nat) : Int := .ofNat a + .negSucc b
def addT (a : Nat) (y : Int) : Int := .negSucc a + y
noncomputable def addF : Int → Int → Int := @Int.rec (fun _ => Int → Int) (fun a y => @Int.rec (fun _ => Nat → Int) (fun b a => .ofNat (Nat.add a b)) (fun b a => addS a b) y a) addT
def subS (a b : Nat) : Int := .ofNat a - .negSucc b
def subT (a : Nat) (y : Int) : Int := .negSucc a - y
noncomputable def subF : Int → Int → Int := @Int.rec (fun _ => Int → Int) (fun a y => @Int.rec (fun _ => Nat → Int) (fun b a => @Bool.rec (fun _ => Int) (.negSucc (Nat.sub (Nat.sub b a) (nat_lit 1))) (.ofNat (Nat.sub a b)) (Nat.ble b a)) (fun b a => subS a b) y a) subT
noncomputable def leF : Int → Int → Bool := @Int.rec (fun _ => Int → Bool) (fun a y => @Int.rec (fun _ => Nat → Bool) (fun b a => Nat.ble a b) (fun _ _ => false) y a) (fun a y => @Int.rec (fun _ => Nat → Bool) (fun _ _ => true) (fun b a => Nat.ble b a) y a)
noncomputable def eqIF : Int → Int → Bool := @Int.rec (fun _ => Int → Bool) (fun a y => @Int.rec (fun _ => Nat → Bool) (fun b a => Nat.beq a b) (fun _ _ => false) y a) (fun a y => @Int.rec (fun _ => Nat → Bool) (fun _ _ => false) (fun b a => Nat.beq a b) y a)
noncomputable def binIF : BinOp → IntKind → Int → Int → (V → Res) → Res :=
  @BinOp.rec (fun _ => IntKind → Int → Int → (V → Res) → Res)
    (fun kd x y k => wrapF (addF x y) kd k)
    (fun kd x y k => wrapF (subF x y) kd k)
    (fun kd x y k => binI .mul kd x y k)
    (fun kd x y k => binI .quo kd x y k)
    (fun kd x y k => binI .rem kd x y k)
    (fun kd x y k => binI .and kd x y k)
    (fun kd x y k => binI .or kd x y k)
    (fun kd x y k => binI .xor kd x y k)
    (fun kd x y k => binI .shl kd x y k)
    (fun kd x y k => binI .shr kd x y k)
    (fun kd x y k => binI .andNot kd x y k)
    (fun _ x y k => bF (eqIF x y) k)
    (fun _ x y k => bF (notF (eqIF x y)) k)
    (fun _ x y k => bF (notF (leF y x)) k)
    (fun _ x y k => bF (leF x y) k)
    (fun _ x y k => bF (notF (leF x y)) k)
    (fun _ x y k => bF (leF y x) k)
noncomputable def catF (l n m j : Nat) (k : V → Res) : Res := gdF (Nat.ble (Nat.add l m) (nat_lit 4294967296)) 14 (fN (Nat.add l m) fun l' => fN (Nat.add n (Nat.mul j (powF l))) fun n' => k (.str l' n'))
noncomputable def binSF : BinOp → Nat → Nat → Nat → Nat → (V → Res) → Res :=
  @BinOp.rec (fun _ => Nat → Nat → Nat → Nat → (V → Res) → Res)
    catF
    (fun _ _ _ _ _ => .bad 15) (fun _ _ _ _ _ => .bad 15) (fun _ _ _ _ _ => .bad 15) (fun _ _ _ _ _ => .bad 15) (fun _ _ _ _ _ => .bad 15) (fun _ _ _ _ _ => .bad 15) (fun _ _ _ _ _ => .bad 15) (fun _ _ _ _ _ => .bad 15) (fun _ _ _ _ _ => .bad 15) (fun _ _ _ _ _ => .bad 15)
    (fun l n m j k => bF (andF (Nat.beq l m) (Nat.beq n j)) k)
    (fun l n m j k => bF (notF (andF (Nat.beq l m) (Nat.beq n j))) k)
    (fun _ _ _ _ _ => .bad 15) (fun _ _ _ _ _ => .bad 15) (fun _ _ _ _ _ => .bad 15) (fun _ _ _ _ _ => .bad 15)
noncomputable def lenF {α : Type} : List α → (Nat → Res) → Res := @List.rec α (fun _ => (Nat → Res) → Res) (fun k => k (nat_lit 0)) (fun _ _ ih k => ih fun n => fN (Nat.succ n) k)
noncomputable def appF (l m : List V) (k : List V → Res) : Res := @List.rec V (fun _ => List V → (List V → Res) → Res) (fun m k => k m) (fun v _ ih m k => ih m fun l' => k (v :: l')) l m k
noncomputable def app3 (fs args caps : List V) (k : List V → Res) : Res :=
  @List.rec V (fun _ => List V → List V → (List V → Res) → Res) (fun fs args k => @List.rec V (fun _ => List V → (List V → Res) → Res) (fun args k => k args) (fun f fs _ args k => appF (f :: fs) args k) fs args k)
    (fun c cs _ fs args k => appF args (c :: cs) fun l => appF fs l k) caps fs args k
noncomputable def rowF : O → (Nat → T V → Res) → Res :=
  @O.rec (fun _ => (Nat → T V → Res) → Res) (fun _ => .bad 10) (fun n t _ _ _ _ k => k n t) (fun n t k => k n t) (fun _ _ => .bad 10) (fun _ _ => .bad 10) (fun _ _ => .bad 10) (fun _ _ => .bad 10)
noncomputable def loneF : O → Bool := @O.rec (fun _ => Bool) false (fun _ _ _ _ _ _ => true) (fun _ _ => false) (fun _ => false) (fun _ => false) (fun _ => false) (fun _ => false)
noncomputable def mapF : O → (List (V × V) → Res) → Res :=
  @O.rec (fun _ => (List (V × V) → Res) → Res) (fun _ => .bad 11) (fun _ _ _ _ _ _ _ => .bad 11) (fun _ _ _ => .bad 11) (fun es k => k es) (fun es k => k es) (fun _ _ => .bad 11) (fun _ _ => .bad 11)
noncomputable def mapEF : O → (List (V × V) → Res) → Res :=
  @O.rec (fun _ => (List (V × V) → Res) → Res) (fun _ => .bad 11) (fun _ _ _ _ _ _ _ => .bad 11) (fun _ _ _ => .bad 11) (fun es k => k es) (fun _ _ => .bad 11) (fun _ _ => .bad 11) (fun _ _ => .bad 11)
noncomputable def setMF (ob : O) (es : List (V × V)) (k : O → Res) : Res :=
  @O.rec (fun _ => List (V × V) → (O → Res) → Res) (fun _ _ => .bad 11) (fun _ _ _ _ _ _ _ _ => .bad 11) (fun _ _ _ _ => .bad 11) (fun _ es k => k (.map es)) (fun _ es k => k (.mapd es)) (fun _ _ _ => .bad 11) (fun _ _ _ => .bad 11) ob es k
abbrev Lk := Nat → Jump → Q → T V → List Q → C → C → Q → Res
noncomputable def loopF (ob : O) (k : Lk) : Res :=
  @O.rec (fun _ => Lk → Res) (fun _ => .bad 84) (fun _ _ _ _ _ _ _ => .bad 84) (fun _ _ _ => .bad 84) (fun _ _ => .bad 84) (fun _ _ => .bad 84) (fun l k => @Lp.rec (fun _ => Lk → Res) (fun st pend fn tm params asg body dfs k => k st pend fn tm params asg body dfs) l k) (fun _ _ => .bad 84) ob k
noncomputable def eqPF (h : T O) (o : Q) (off : Nat) (o' : Q) (off' : Nat) (k : Bool → Res) : Res :=
  @Bool.rec (fun _ => T O → Q → Nat → Q → Nat → (Bool → Res) → Res)
    (fun h o _ o' _ k => goT o h fun x => goT o' h fun y => gdF (andF (loneF x) (loneF y)) 20 (k false))
    (fun h o off _ off' k => @Bool.rec (fun _ => T O → Q → (Bool → Res) → Res) (fun h o k => goT o h fun x => gdF (loneF x) 20 (k false)) (fun _ _ k => k true) (Nat.beq off off') h o k) (bq10F o o') h o off o' off' k
noncomputable def ldF (h : T O) (o : Q) (off : Nat) (k : V → Res) : Res :=
  goT o h fun ob => rowF ob fun n t => gdF (Nat.ble (Nat.succ off) n) 46 (gvT (qn off) t k)
noncomputable def getsF : Nat → Nat → T V → (List V → Res) → Res :=
  @Nat.rec (fun _ => Nat → T V → (List V → Res) → Res) (fun _ _ k => k []) (fun _ ih i t k => gvT (qn i) t fun v => ih (Nat.succ i) t fun l => k (v :: l))
noncomputable def ldsF (h : T O) (o : Q) (off n : Nat) (k : List V → Res) : Res :=
  goT o h fun ob => rowF ob fun m t => gdF (Nat.ble (Nat.add off n) m) 47 (getsF n off t k)
noncomputable def putsF : List V → Nat → T V → (T V → Res) → Res :=
  @List.rec V (fun _ => Nat → T V → (T V → Res) → Res) (fun _ t k => k t) (fun v _ ih i t k => dvT (qn i) v t fun t' => ih (Nat.succ i) t' k)
noncomputable def takeF : List V → Nat → (List V → Res) → Res :=
  @List.rec V (fun _ => Nat → (List V → Res) → Res) (fun n k => @Nat.rec (fun _ => (List V → Res) → Res) (fun k => k []) (fun _ _ _ => .bad 30) n k)
    (fun v _ ih n k => @Nat.rec (fun _ => V → (Nat → (List V → Res) → Res) → (List V → Res) → Res) (fun _ _ k => k []) (fun n _ v ih k => ih n fun l' => k (v :: l')) n v ih k)
noncomputable def partF : List V → Nat → Nat → (List V → Res) → Res :=
  @List.rec V (fun _ => Nat → Nat → (List V → Res) → Res) (fun off n k => @Nat.rec (fun _ => Nat → (List V → Res) → Res) (fun n k => takeF [] n k) (fun _ _ _ _ => .bad 31) off n k)
    (fun v l ih off n k => @Nat.rec (fun _ => List V → (Nat → Nat → (List V → Res) → Res) → Nat → (List V → Res) → Res) (fun l _ n k => takeF l n k) (fun off _ _ ih n k => ih off n k) off (v :: l) ih n k)
noncomputable def nthF : List V → Nat → (V → Res) → Res :=
  @List.rec V (fun _ => Nat → (V → Res) → Res) (fun _ _ => .bad 1) (fun v _ ih n k => @Nat.rec (fun _ => V → (Nat → (V → Res) → Res) → (V → Res) → Res) (fun v _ k => k v) (fun m _ _ ih k => ih m k) n v ih k)
noncomputable def fdF : Bool → Nat → Nat → List V → (V → Res) → Res :=
  @Bool.rec (fun _ => Nat → Nat → List V → (V → Res) → Res) (fun off _ l k => nthF l off k) (fun off n l k => partF l off n fun l' => k (.agg l'))
noncomputable def overF : List V → Nat → List V → (List V → Res) → Res :=
  @List.rec V (fun _ => Nat → List V → (List V → Res) → Res)
    (fun off new k => @Nat.rec (fun _ => List V → (List V → Res) → Res) (fun new k => @List.rec V (fun _ => (List V → Res) → Res) (fun k => k []) (fun _ _ _ _ => .bad 26) new k) (fun _ _ _ _ => .bad 27) off new k)
    (fun x r ih off new k => @Nat.rec (fun _ => V → List V → (Nat → List V → (List V → Res) → Res) → List V → (List V → Res) → Res)
      (fun x r ih new k => @List.rec V (fun _ => V → List V → (Nat → List V → (List V → Res) → Res) → (List V → Res) → Res) (fun x r _ k => k (x :: r)) (fun v vs _ _ _ ih k => ih (nat_lit 0) vs fun l' => k (v :: l')) new x r ih k)
      (fun off _ x _ ih new k => ih off new fun l' => k (x :: l')) off x r ih new k)
noncomputable def elF (c : Nat) (o : Q) (off len sz i : Nat) (k : V → Res) : Res := gdF (Nat.ble (Nat.succ i) len) c (fN (Nat.add off (Nat.mul i sz)) fun a => k (.ptr o a))
noncomputable def cutSl (o : Q) (off cap sz lo hi : Nat) (k : V → Res) : Res :=
  gdF (andF (Nat.ble lo hi) (Nat.ble hi cap)) 41 (fN (Nat.sub hi lo) fun l => fN (Nat.sub cap lo) fun c => ifF (Nat.beq lo cap) (k (.sl o off l c)) (fN (Nat.add off (Nat.mul lo sz)) fun a => k (.sl o a l c)))
noncomputable def cutSu (o : Q) (off len sz lo hi : Nat) (k : V → Res) : Res :=
  gdF (andF (Nat.ble lo hi) (Nat.ble hi len)) 43 (ifF (Nat.ble (Nat.succ lo) len) (fN (Nat.sub hi lo) fun l => fN (Nat.add off (Nat.mul lo sz)) fun a => k (.su o a l sz)) (ifF (Nat.beq lo (nat_lit 0)) (k (.su o off (nat_lit 0) sz)) (k .se)))
noncomputable def sdF (len : Nat) (o : Q) (off : Nat) (k : V → Res) : Res := @Nat.rec (fun _ => Res) (.bad 114) (fun _ _ => k (.ptr o off)) len
noncomputable def clF (len sz : Nat) (h : T O) (o : Q) (off : Nat) (k : Nat → List V → Res) : Res := @Nat.rec (fun _ => Res) (k (nat_lit 0) []) (fun m _ => ldsF h o off (Nat.mul (Nat.succ m) sz) fun l => k (Nat.succ m) l) len
noncomputable def byF : Nat → Nat → (List V → Res) → Res :=
  @Nat.rec (fun _ => Nat → (List V → Res) → Res) (fun _ k => k []) (fun _ ih n k => fN (Nat.mod n (nat_lit 256)) fun c => fN (Nat.div n (nat_lit 256)) fun n' => ih n' fun cs => k (.int .u8 (.ofNat c) :: cs))
noncomputable def killF : List Q → T O → (T O → Res) → Res := @List.rec Q (fun _ => T O → (T O → Res) → Res) (fun h k => k h) (fun q _ ih h k => doT q .dead h fun h' => ih h' k)
noncomputable def wrS (n : Nat) (t : T V) (anc : List Q) (ty : Nat) (ex : Bool) (o : Q) (h : T O) (k : T O → Res) : Res := killF anc h fun h' => doT o (.row n t [] (nat_lit 0) ty ex) h' k
noncomputable def wrR (n : Nat) (t : T V) (anc : List Q) (flo ty : Nat) (ex : Bool) (o : Q) (off : Nat) (vs : List V) (h : T O) (k : T O → Res) : Res :=
  lenF vs fun m => gdF (Nat.ble (Nat.add off m) n) 60 (putsF vs off t fun t' => ifF (Nat.ble flo off) (doT o (.row n t' anc flo ty ex) h k) (wrS n t' anc ty ex o h k))
noncomputable def wrRow : O → Q → Nat → List V → T O → (T O → Res) → Res :=
  @O.rec (fun _ => Q → Nat → List V → T O → (T O → Res) → Res) (fun _ _ _ _ _ => .bad 61) wrR
    (fun _ _ _ _ _ _ _ => .bad 61) (fun _ _ _ _ _ _ => .bad 61) (fun _ _ _ _ _ _ => .bad 61) (fun _ _ _ _ _ _ => .bad 61) (fun _ _ _ _ _ _ => .bad 61)
noncomputable def wrF (o : Q) (off : Nat) (vs : List V) (h : T O) (k : T O → Res) : Res := goT o h fun ob => wrRow ob o off vs h k
noncomputable def growF (ty sz len m : Nat) (old new : List V) (h : T O) (nx : Q) (k : Kw) : Res :=
  gdF (Nat.ble (Nat.add len m) (nat_lit 4294967296)) 112 (putsF old (nat_lit 0) .nil fun t => putsF new (Nat.mul len sz) t fun t' => fN (Nat.mul (Nat.add len m) sz) fun n => fN (Nat.add len m) fun l => doT nx (.row n t' [] (nat_lit 0) ty false) h fun h' => sqT nx fun nx' => k (.su nx (nat_lit 0) l sz) h' nx')
noncomputable def apN (m ty sz : Nat) (new : List V) (h : T O) (nx : Q) (k : Kw) : Res := @Nat.rec (fun _ => Res) (k .nils h nx) (fun m _ => growF ty sz (nat_lit 0) (Nat.succ m) [] new h nx k) m
noncomputable def apSl (o : Q) (off len cap ty sz m : Nat) (new : List V) (h : T O) (nx : Q) (k : Kw) : Res :=
  ifF (Nat.ble (Nat.add len m) cap)
    (@Nat.rec (fun _ => Res) (k (.sl o off len cap) h nx) (fun m _ => wrF o (Nat.add off (Nat.mul len sz)) new h fun h' => fN (Nat.add len (Nat.succ m)) fun l => k (.sl o off l cap) h' nx) m)
    (clF len sz h o off fun _ old => growF ty sz len m old new h nx k)
noncomputable def apFit (n : Nat) (o : Q) (off len ty sz m : Nat) (new : List V) (t : T V) (anc : List Q) (ty' : Nat) (h : T O) (nx : Q) (k : Kw) : Res :=
  gdF (andF (Nat.beq (Nat.add off (Nat.mul len sz)) n) (andF (Nat.beq off (nat_lit 0)) (andF (Nat.beq ty ty') (Nat.ble (Nat.add len m) (nat_lit 4294967296))))) 64
    (putsF new n t fun t' => fN (Nat.add n (Nat.mul m sz)) fun n' => fN (Nat.add len m) fun l => doT o (.ro n t) h fun h' => doT nx (.row n' t' (o :: anc) n ty' false) h' fun h'' => sqT nx fun nx' => k (.su nx off l sz) h'' nx')
noncomputable def apRow (ob : O) (o : Q) (off len ty sz m : Nat) (new : List V) (h : T O) (nx : Q) (k : Kw) : Res :=
  @O.rec (fun _ => Res) (.bad 65) (fun n t anc _ ty' _ => ifF (Nat.ble (Nat.add off (Nat.mul (Nat.add len m) sz)) n)
      (wrF o (Nat.add off (Nat.mul len sz)) new h fun h' => fN (Nat.add len m) fun l => k (.su o off l sz) h' nx) (apFit n o off len ty sz m new t anc ty' h nx k))
    (fun _ _ => .bad 65) (fun _ => .bad 65) (fun _ => .bad 65) (fun _ => .bad 65) (fun _ => .bad 65) ob
noncomputable def apSu (m : Nat) (o : Q) (off len ty sz : Nat) (new : List V) (h : T O) (nx : Q) (k : Kw) : Res :=
  @Nat.rec (fun _ => Res) (k (.su o off len sz) h nx) (fun m _ => goT o h fun ob => apRow ob o off len ty sz (Nat.succ m) new h nx k) m
noncomputable def u8C (n : Nat) (k : Nat → Res) : Res := gdF (Nat.ble (Nat.succ n) (nat_lit 256)) 115 (k n)
noncomputable def u8I (n : Int) (k : Nat → Res) : Res := @Int.rec (fun _ => (Nat → Res) → Res) (fun n k => u8C n k) (fun _ _ => .bad 115) n k
noncomputable def u8F (kd : IntKind) (n : Int) (k : Nat → Res) : Res := gdF (Nat.beq (ikNF kd) (nat_lit 4)) 115 (u8I n k)
noncomputable def taMs (ok : Bool) (z : V) (k : V → Res) : Res := @Bool.rec (fun _ => V → (V → Res) → Res) (fun _ _ => .bad 120) (fun z k => k (.tup [z, .bool false])) ok z k
noncomputable def lkHit (ok : Bool) (v : V) (k : V → Res) : Res := @Bool.rec (fun _ => V → (V → Res) → Res) (fun v k => k v) (fun v k => k (.tup [v, .bool true])) ok v k
noncomputable def taIfc (ok : Bool) (tt : Nat) (z : V) (t : Nat) (u : V) (k : V → Res) : Res := ifF (Nat.beq t tt) (lkHit ok u k) (taMs ok z k)
noncomputable def vI : V → (IntKind → Int → Res) → Res :=
  @V.rec (fun _ => (IntKind → Int → Res) → Res) (fun _ => PUnit)
    (fun _ => .bad 3)
    (fun _ _ => .bad 3)
    (fun kd n k => k kd n)
    (fun _ _ _ => .bad 3)
    (fun _ => .bad 3)
    (fun _ _ _ => .bad 3)
    (fun _ => .bad 3)
    (fun _ _ _ _ _ => .bad 3)
    (fun _ _ _ _ _ => .bad 3)
    (fun _ => .bad 3)
    (fun _ => .bad 3)
    (fun _ _ => .bad 3)
    (fun _ => .bad 3)
    (fun _ _ _ _ _ _ => .bad 3)
    (fun _ _ => .bad 3)
    (fun _ => .bad 3)
    (fun _ _ _ _ => .bad 3)
    (fun _ _ _ => .bad 3)
    (fun _ _ _ => .bad 3)
    ⟨⟩ (fun _ _ _ _ => ⟨⟩)
noncomputable def vB : V → (Bool → Res) → Res :=
  @V.rec (fun _ => (Bool → Res) → Res) (fun _ => PUnit)
    (fun _ => .bad 4)
    (fun b k => k b)
    (fun _ _ _ => .bad 4)
    (fun _ _ _ => .bad 4)
    (fun _ => .bad 4)
    (fun _ _ _ => .bad 4)
    (fun _ => .bad 4)
    (fun _ _ _ _ _ => .bad 4)
    (fun _ _ _ _ _ => .bad 4)
    (fun _ => .bad 4)
    (fun _ => .bad 4)
    (fun _ _ => .bad 4)
    (fun _ => .bad 4)
    (fun _ _ _ _ _ _ => .bad 4)
    (fun _ _ => .bad 4)
    (fun _ => .bad 4)
    (fun _ _ _ _ => .bad 4)
    (fun _ _ _ => .bad 4)
    (fun _ _ _ => .bad 4)
    ⟨⟩ (fun _ _ _ _ => ⟨⟩)
noncomputable def vN : V → (Nat → Res) → Res :=
  @V.rec (fun _ => (Nat → Res) → Res) (fun _ => PUnit)
    (fun _ => .bad 6)
    (fun _ _ => .bad 6)
    (fun _ n k => iN n k)
    (fun _ _ _ => .bad 6)
    (fun _ => .bad 6)
    (fun _ _ _ => .bad 6)
    (fun _ => .bad 6)
    (fun _ _ _ _ _ => .bad 6)
    (fun _ _ _ _ _ => .bad 6)
    (fun _ => .bad 6)
    (fun _ => .bad 6)
    (fun _ _ => .bad 6)
    (fun _ => .bad 6)
    (fun _ _ _ _ _ _ => .bad 6)
    (fun _ _ => .bad 6)
    (fun _ => .bad 6)
    (fun _ _ _ _ => .bad 6)
    (fun _ _ _ => .bad 6)
    (fun _ _ _ => .bad 6)
    ⟨⟩ (fun _ _ _ _ => ⟨⟩)
noncomputable def vP : V → (Q → Nat → Res) → Res :=
  @V.rec (fun _ => (Q → Nat → Res) → Res) (fun _ => PUnit)
    (fun _ => .bad 7)
    (fun _ _ => .bad 7)
    (fun _ _ _ => .bad 7)
    (fun _ _ _ => .bad 7)
    (fun _ => .bad 7)
    (fun o off k => k o off)
    (fun _ => .bad 7)
    (fun _ _ _ _ _ => .bad 7)
    (fun _ _ _ _ _ => .bad 7)
    (fun _ => .bad 7)
    (fun _ => .bad 7)
    (fun _ _ => .bad 7)
    (fun _ => .bad 7)
    (fun _ _ _ _ _ _ => .bad 7)
    (fun _ _ => .bad 7)
    (fun _ => .bad 7)
    (fun _ _ _ _ => .bad 7)
    (fun _ _ _ => .bad 7)
    (fun _ _ _ => .bad 7)
    ⟨⟩ (fun _ _ _ _ => ⟨⟩)
noncomputable def vS : V → (Nat → Nat → Res) → Res :=
  @V.rec (fun _ => (Nat → Nat → Res) → Res) (fun _ => PUnit)
    (fun _ => .bad 8)
    (fun _ _ => .bad 8)
    (fun _ _ _ => .bad 8)
    (fun l n k => k l n)
    (fun _ => .bad 8)
    (fun _ _ _ => .bad 8)
    (fun _ => .bad 8)
    (fun _ _ _ _ _ => .bad 8)
    (fun _ _ _ _ _ => .bad 8)
    (fun _ => .bad 8)
    (fun _ => .bad 8)
    (fun _ _ => .bad 8)
    (fun _ => .bad 8)
    (fun _ _ _ _ _ _ => .bad 8)
    (fun _ _ => .bad 8)
    (fun _ => .bad 8)
    (fun _ _ _ _ => .bad 8)
    (fun _ _ _ => .bad 8)
    (fun _ _ _ => .bad 8)
    ⟨⟩ (fun _ _ _ _ => ⟨⟩)
noncomputable def vA : V → (List V → Res) → Res :=
  @V.rec (fun _ => (List V → Res) → Res) (fun _ => PUnit)
    (fun _ => .bad 9)
    (fun _ _ => .bad 9)
    (fun _ _ _ => .bad 9)
    (fun _ _ _ => .bad 9)
    (fun _ => .bad 9)
    (fun _ _ _ => .bad 9)
    (fun _ => .bad 9)
    (fun _ _ _ _ _ => .bad 9)
    (fun _ _ _ _ _ => .bad 9)
    (fun _ => .bad 9)
    (fun _ => .bad 9)
    (fun _ _ => .bad 9)
    (fun _ => .bad 9)
    (fun _ _ _ _ _ _ => .bad 9)
    (fun _ _ => .bad 9)
    (fun _ => .bad 9)
    (fun _ _ _ _ => .bad 9)
    (fun vs _ k => k vs)
    (fun _ _ _ => .bad 9)
    ⟨⟩ (fun _ _ _ _ => ⟨⟩)
noncomputable def vT : V → (List V → Res) → Res :=
  @V.rec (fun _ => (List V → Res) → Res) (fun _ => PUnit)
    (fun _ => .bad 55)
    (fun _ _ => .bad 55)
    (fun _ _ _ => .bad 55)
    (fun _ _ _ => .bad 55)
    (fun _ => .bad 55)
    (fun _ _ _ => .bad 55)
    (fun _ => .bad 55)
    (fun _ _ _ _ _ => .bad 55)
    (fun _ _ _ _ _ => .bad 55)
    (fun _ => .bad 55)
    (fun _ => .bad 55)
    (fun _ _ => .bad 55)
    (fun _ => .bad 55)
    (fun _ _ _ _ _ _ => .bad 55)
    (fun _ _ => .bad 55)
    (fun _ => .bad 55)
    (fun _ _ _ _ => .bad 55)
    (fun _ _ _ => .bad 55)
    (fun vs _ k => k vs)
    ⟨⟩ (fun _ _ _ _ => ⟨⟩)
noncomputable def vM : V → Nat → (Q → Res) → Res → Res :=
  @V.rec (fun _ => Nat → (Q → Res) → Res → Res) (fun _ => PUnit)
    (fun c _ _ => .bad c)
    (fun _ c _ _ => .bad c)
    (fun _ _ c _ _ => .bad c)
    (fun _ _ c _ _ => .bad c)
    (fun c _ _ => .bad c)
    (fun _ _ c _ _ => .bad c)
    (fun c _ _ => .bad c)
    (fun _ _ _ _ c _ _ => .bad c)
    (fun _ _ _ _ c _ _ => .bad c)
    (fun c _ _ => .bad c)
    (fun _ _ kn => kn)
    (fun o _ k _ => k o)
    (fun c _ _ => .bad c)
    (fun _ _ _ _ _ c _ _ => .bad c)
    (fun _ c _ _ => .bad c)
    (fun c _ _ => .bad c)
    (fun _ _ _ c _ _ => .bad c)
    (fun _ _ c _ _ => .bad c)
    (fun _ _ c _ _ => .bad c)
    ⟨⟩ (fun _ _ _ _ => ⟨⟩)
noncomputable def vSc : V → Nat → (Nat → Nat → Res) → Res :=
  @V.rec (fun _ => Nat → (Nat → Nat → Res) → Res) (fun _ => PUnit)
    (fun c _ => .bad c)
    (fun _ c _ => .bad c)
    (fun _ _ c _ => .bad c)
    (fun l n _ k => k l n)
    (fun c _ => .bad c)
    (fun _ _ c _ => .bad c)
    (fun c _ => .bad c)
    (fun _ _ _ _ c _ => .bad c)
    (fun _ _ _ _ c _ => .bad c)
    (fun c _ => .bad c)
    (fun c _ => .bad c)
    (fun _ c _ => .bad c)
    (fun c _ => .bad c)
    (fun _ _ _ _ _ c _ => .bad c)
    (fun _ c _ => .bad c)
    (fun c _ => .bad c)
    (fun _ _ _ c _ => .bad c)
    (fun _ _ c _ => .bad c)
    (fun _ _ c _ => .bad c)
    ⟨⟩ (fun _ _ _ _ => ⟨⟩)
noncomputable def vIc : V → Nat → (IntKind → Int → Res) → Res :=
  @V.rec (fun _ => Nat → (IntKind → Int → Res) → Res) (fun _ => PUnit)
    (fun c _ => .bad c)
    (fun _ c _ => .bad c)
    (fun kd n _ k => k kd n)
    (fun _ _ c _ => .bad c)
    (fun c _ => .bad c)
    (fun _ _ c _ => .bad c)
    (fun c _ => .bad c)
    (fun _ _ _ _ c _ => .bad c)
    (fun _ _ _ _ c _ => .bad c)
    (fun c _ => .bad c)
    (fun c _ => .bad c)
    (fun _ c _ => .bad c)
    (fun c _ => .bad c)
    (fun _ _ _ _ _ c _ => .bad c)
    (fun _ c _ => .bad c)
    (fun c _ => .bad c)
    (fun _ _ _ c _ => .bad c)
    (fun _ _ c _ => .bad c)
    (fun _ _ c _ => .bad c)
    ⟨⟩ (fun _ _ _ _ => ⟨⟩)
noncomputable def vPc : V → Nat → (Q → Nat → Res) → Res :=
  @V.rec (fun _ => Nat → (Q → Nat → Res) → Res) (fun _ => PUnit)
    (fun c _ => .bad c)
    (fun _ c _ => .bad c)
    (fun _ _ c _ => .bad c)
    (fun _ _ c _ => .bad c)
    (fun c _ => .bad c)
    (fun o off _ k => k o off)
    (fun c _ => .bad c)
    (fun _ _ _ _ c _ => .bad c)
    (fun _ _ _ _ c _ => .bad c)
    (fun c _ => .bad c)
    (fun c _ => .bad c)
    (fun _ c _ => .bad c)
    (fun c _ => .bad c)
    (fun _ _ _ _ _ c _ => .bad c)
    (fun _ c _ => .bad c)
    (fun c _ => .bad c)
    (fun _ _ _ c _ => .bad c)
    (fun _ _ c _ => .bad c)
    (fun _ _ c _ => .bad c)
    ⟨⟩ (fun _ _ _ _ => ⟨⟩)
noncomputable def vLen : V → (Nat → Res) → Res :=
  @V.rec (fun _ => (Nat → Res) → Res) (fun _ => PUnit)
    (fun _ => .bad 39)
    (fun _ _ => .bad 39)
    (fun _ _ _ => .bad 39)
    (fun _ _ _ => .bad 39)
    (fun _ => .bad 39)
    (fun _ _ _ => .bad 39)
    (fun k => k (nat_lit 0))
    (fun _ _ len _ k => k len)
    (fun _ _ len _ k => k len)
    (fun k => k (nat_lit 0))
    (fun _ => .bad 39)
    (fun _ _ => .bad 39)
    (fun _ => .bad 39)
    (fun _ _ _ _ _ _ => .bad 39)
    (fun _ _ => .bad 39)
    (fun _ => .bad 39)
    (fun _ _ _ _ => .bad 39)
    (fun _ _ _ => .bad 39)
    (fun _ _ _ => .bad 39)
    ⟨⟩ (fun _ _ _ _ => ⟨⟩)
noncomputable def vElem : V → Nat → Nat → (V → Res) → Res :=
  @V.rec (fun _ => Nat → Nat → (V → Res) → Res) (fun _ => PUnit)
    (fun _ _ _ => .bad 38)
    (fun _ _ _ _ => .bad 38)
    (fun _ _ _ _ _ => .bad 38)
    (fun _ _ _ _ _ => .bad 38)
    (fun _ _ _ => .bad 38)
    (fun _ _ _ _ _ => .bad 38)
    (fun _ _ _ => .bad 38)
    (fun o off len _ sz i k => elF (nat_lit 36) o off len sz i k)
    (fun o off len _ sz i k => elF (nat_lit 37) o off len sz i k)
    (fun _ _ _ => .bad 38)
    (fun _ _ _ => .bad 38)
    (fun _ _ _ _ => .bad 38)
    (fun _ _ _ => .bad 38)
    (fun _ _ _ _ _ _ _ _ => .bad 38)
    (fun _ _ _ _ => .bad 38)
    (fun _ _ _ => .bad 38)
    (fun _ _ _ _ _ _ => .bad 38)
    (fun _ _ _ _ _ => .bad 38)
    (fun _ _ _ _ _ => .bad 38)
    ⟨⟩ (fun _ _ _ _ => ⟨⟩)
noncomputable def vCv : V → (List V → Res) → Res :=
  @V.rec (fun _ => (List V → Res) → Res) (fun _ => PUnit)
    (fun _ => .bad 111)
    (fun b k => k [.bool b])
    (fun kd n k => k [.int kd n])
    (fun l n k => k [.str l n])
    (fun k => k [.nilp])
    (fun o off k => k [.ptr o off])
    (fun k => k [.nils])
    (fun o off len cap k => k [.sl o off len cap])
    (fun o off len z k => k [.su o off len z])
    (fun k => k [.se])
    (fun k => k [.nilm])
    (fun o k => k [.map o])
    (fun k => k [.nilf])
    (fun f fs cs _ _ k => k [.fn f fs cs])
    (fun l k => k [.yld l])
    (fun k => k [.nili])
    (fun t u _ k => k [.ifc t u])
    (fun vs _ k => k vs)
    (fun _ _ _ => .bad 110)
    ⟨⟩ (fun _ _ _ _ => ⟨⟩)
noncomputable def vNck : V → (V → Res) → Res :=
  @V.rec (fun _ => (V → Res) → Res) (fun _ => PUnit)
    (fun _ => .bad 48)
    (fun _ _ => .bad 48)
    (fun _ _ _ => .bad 48)
    (fun _ _ _ => .bad 48)
    (fun _ => .bad 48)
    (fun o off k => k (.ptr o off))
    (fun _ => .bad 48)
    (fun _ _ _ _ _ => .bad 48)
    (fun _ _ _ _ _ => .bad 48)
    (fun _ => .bad 48)
    (fun _ => .bad 48)
    (fun _ _ => .bad 48)
    (fun _ => .bad 48)
    (fun f fs cs _ _ k => k (.fn f fs cs))
    (fun l k => k (.yld l))
    (fun _ => .bad 48)
    (fun t u _ k => k (.ifc t u))
    (fun _ _ _ => .bad 48)
    (fun _ _ _ => .bad 48)
    ⟨⟩ (fun _ _ _ _ => ⟨⟩)
noncomputable def vBinI : V → BinOp → IntKind → Int → (V → Res) → Res :=
  @V.rec (fun _ => BinOp → IntKind → Int → (V → Res) → Res) (fun _ => PUnit)
    (fun _ _ _ _ => .bad 17)
    (fun _ _ _ _ _ => .bad 17)
    (fun kd n op ka x k => gdF (Nat.beq (ikNF ka) (ikNF kd)) 16 (binIF op ka x n k))
    (fun _ _ _ _ _ _ => .bad 17)
    (fun _ _ _ _ => .bad 17)
    (fun _ _ _ _ _ _ => .bad 17)
    (fun _ _ _ _ => .bad 17)
    (fun _ _ _ _ _ _ _ _ => .bad 17)
    (fun _ _ _ _ _ _ _ _ => .bad 17)
    (fun _ _ _ _ => .bad 17)
    (fun _ _ _ _ => .bad 17)
    (fun _ _ _ _ _ => .bad 17)
    (fun _ _ _ _ => .bad 17)
    (fun _ _ _ _ _ _ _ _ _ => .bad 17)
    (fun _ _ _ _ _ => .bad 17)
    (fun _ _ _ _ => .bad 17)
    (fun _ _ _ _ _ _ _ => .bad 17)
    (fun _ _ _ _ _ _ => .bad 17)
    (fun _ _ _ _ _ _ => .bad 17)
    ⟨⟩ (fun _ _ _ _ => ⟨⟩)
noncomputable def vBinS : V → BinOp → Nat → Nat → (V → Res) → Res :=
  @V.rec (fun _ => BinOp → Nat → Nat → (V → Res) → Res) (fun _ => PUnit)
    (fun _ _ _ _ => .bad 18)
    (fun _ _ _ _ _ => .bad 18)
    (fun _ _ _ _ _ _ => .bad 18)
    (fun l n op la na k => binSF op la na l n k)
    (fun _ _ _ _ => .bad 18)
    (fun _ _ _ _ _ _ => .bad 18)
    (fun _ _ _ _ => .bad 18)
    (fun _ _ _ _ _ _ _ _ => .bad 18)
    (fun _ _ _ _ _ _ _ _ => .bad 18)
    (fun _ _ _ _ => .bad 18)
    (fun _ _ _ _ => .bad 18)
    (fun _ _ _ _ _ => .bad 18)
    (fun _ _ _ _ => .bad 18)
    (fun _ _ _ _ _ _ _ _ _ => .bad 18)
    (fun _ _ _ _ _ => .bad 18)
    (fun _ _ _ _ => .bad 18)
    (fun _ _ _ _ _ _ _ => .bad 18)
    (fun _ _ _ _ _ _ => .bad 18)
    (fun _ _ _ _ _ _ => .bad 18)
    ⟨⟩ (fun _ _ _ _ => ⟨⟩)
noncomputable def vBin : V → BinOp → V → (V → Res) → Res :=
  @V.rec (fun _ => BinOp → V → (V → Res) → Res) (fun _ => PUnit)
    (fun _ _ _ => .bad 19)
    (fun _ _ _ _ => .bad 19)
    (fun kd n op y k => vBinI y op kd n k)
    (fun l n op y k => vBinS y op l n k)
    (fun _ _ _ => .bad 19)
    (fun _ _ _ _ _ => .bad 19)
    (fun _ _ _ => .bad 19)
    (fun _ _ _ _ _ _ _ => .bad 19)
    (fun _ _ _ _ _ _ _ => .bad 19)
    (fun _ _ _ => .bad 19)
    (fun _ _ _ => .bad 19)
    (fun _ _ _ _ => .bad 19)
    (fun _ _ _ => .bad 19)
    (fun _ _ _ _ _ _ _ _ => .bad 19)
    (fun _ _ _ _ => .bad 19)
    (fun _ _ _ => .bad 19)
    (fun _ _ _ _ _ _ => .bad 19)
    (fun _ _ _ _ _ => .bad 19)
    (fun _ _ _ _ _ => .bad 19)
    ⟨⟩ (fun _ _ _ _ => ⟨⟩)
noncomputable def vFn : V → (Q → List V → List V → Res) → (Q → Res) → Res :=
  @V.rec (fun _ => (Q → List V → List V → Res) → (Q → Res) → Res) (fun _ => PUnit)
    (fun _ _ => .bad 85)
    (fun _ _ _ => .bad 85)
    (fun _ _ _ _ => .bad 85)
    (fun _ _ _ _ => .bad 85)
    (fun _ _ => .bad 85)
    (fun _ _ _ _ => .bad 85)
    (fun _ _ => .bad 85)
    (fun _ _ _ _ _ _ => .bad 85)
    (fun _ _ _ _ _ _ => .bad 85)
    (fun _ _ => .bad 85)
    (fun _ _ => .bad 85)
    (fun _ _ _ => .bad 85)
    (fun _ _ => .bad 85)
    (fun f fs cs _ _ k _ => k f fs cs)
    (fun l _ ky => ky l)
    (fun _ _ => .bad 85)
    (fun _ _ _ _ _ => .bad 85)
    (fun _ _ _ _ => .bad 85)
    (fun _ _ _ _ => .bad 85)
    ⟨⟩ (fun _ _ _ _ => ⟨⟩)
noncomputable def vGuard : V → Bool → St → St → St :=
  @V.rec (fun _ => Bool → St → St → St) (fun _ => PUnit)
    (fun _ _ _ => stBad)
    (fun b want go skip => boolEqF b want go skip)
    (fun _ _ _ _ _ => stBad)
    (fun _ _ _ _ _ => stBad)
    (fun _ _ _ => stBad)
    (fun _ _ _ _ _ => stBad)
    (fun _ _ _ => stBad)
    (fun _ _ _ _ _ _ _ => stBad)
    (fun _ _ _ _ _ _ _ => stBad)
    (fun _ _ _ => stBad)
    (fun _ _ _ => stBad)
    (fun _ _ _ _ => stBad)
    (fun _ _ _ => stBad)
    (fun _ _ _ _ _ _ _ _ => stBad)
    (fun _ _ _ _ => stBad)
    (fun _ _ _ => stBad)
    (fun _ _ _ _ _ _ => stBad)
    (fun _ _ _ _ _ => stBad)
    (fun vs _ _ _ skip => nilLF vs skip)
    ⟨⟩ (fun _ _ _ _ => ⟨⟩)
noncomputable def vCond : V → St → St → St :=
  @V.rec (fun _ => St → St → St) (fun _ => PUnit)
    (fun _ _ => stBad4)
    (fun b x y => boolF b x y)
    (fun _ _ _ _ => stBad4)
    (fun _ _ _ _ => stBad4)
    (fun _ _ => stBad4)
    (fun _ _ _ _ => stBad4)
    (fun _ _ => stBad4)
    (fun _ _ _ _ _ _ => stBad4)
    (fun _ _ _ _ _ _ => stBad4)
    (fun _ _ => stBad4)
    (fun _ _ => stBad4)
    (fun _ _ _ => stBad4)
    (fun _ _ => stBad4)
    (fun _ _ _ _ _ _ _ => stBad4)
    (fun _ _ _ => stBad4)
    (fun _ _ => stBad4)
    (fun _ _ _ _ _ => stBad4)
    (fun _ _ _ _ => stBad4)
    (fun _ _ _ _ => stBad4)
    ⟨⟩ (fun _ _ _ _ => ⟨⟩)
noncomputable def vNilS : V → (Bool → Res) → Res :=
  @V.rec (fun _ => (Bool → Res) → Res) (fun _ => PUnit)
    (fun _ => .bad 21)
    (fun _ _ => .bad 21)
    (fun _ _ _ => .bad 21)
    (fun _ _ _ => .bad 21)
    (fun _ => .bad 21)
    (fun _ _ _ => .bad 21)
    (fun k => k true)
    (fun _ _ _ _ k => k false)
    (fun _ _ _ _ k => k false)
    (fun k => k false)
    (fun _ => .bad 21)
    (fun _ _ => .bad 21)
    (fun _ => .bad 21)
    (fun _ _ _ _ _ _ => .bad 21)
    (fun _ _ => .bad 21)
    (fun _ => .bad 21)
    (fun _ _ _ _ => .bad 21)
    (fun _ _ _ => .bad 21)
    (fun _ _ _ => .bad 21)
    ⟨⟩ (fun _ _ _ _ => ⟨⟩)
noncomputable def vNilM : V → (Bool → Res) → Res :=
  @V.rec (fun _ => (Bool → Res) → Res) (fun _ => PUnit)
    (fun _ => .bad 21)
    (fun _ _ => .bad 21)
    (fun _ _ _ => .bad 21)
    (fun _ _ _ => .bad 21)
    (fun _ => .bad 21)
    (fun _ _ _ => .bad 21)
    (fun _ => .bad 21)
    (fun _ _ _ _ _ => .bad 21)
    (fun _ _ _ _ _ => .bad 21)
    (fun _ => .bad 21)
    (fun k => k true)
    (fun _ k => k false)
    (fun _ => .bad 21)
    (fun _ _ _ _ _ _ => .bad 21)
    (fun _ _ => .bad 21)
    (fun _ => .bad 21)
    (fun _ _ _ _ => .bad 21)
    (fun _ _ _ => .bad 21)
    (fun _ _ _ => .bad 21)
    ⟨⟩ (fun _ _ _ _ => ⟨⟩)
noncomputable def vNilF : V → (Bool → Res) → Res :=
  @V.rec (fun _ => (Bool → Res) → Res) (fun _ => PUnit)
    (fun _ => .bad 21)
    (fun _ _ => .bad 21)
    (fun _ _ _ => .bad 21)
    (fun _ _ _ => .bad 21)
    (fun _ => .bad 21)
    (fun _ _ _ => .bad 21)
    (fun _ => .bad 21)
    (fun _ _ _ _ _ => .bad 21)
    (fun _ _ _ _ _ => .bad 21)
    (fun _ => .bad 21)
    (fun _ => .bad 21)
    (fun _ _ => .bad 21)
    (fun k => k true)
    (fun _ _ _ _ _ k => k false)
    (fun _ k => k false)
    (fun _ => .bad 21)
    (fun _ _ _ _ => .bad 21)
    (fun _ _ _ => .bad 21)
    (fun _ _ _ => .bad 21)
    ⟨⟩ (fun _ _ _ _ => ⟨⟩)
noncomputable def vNilI : V → (Bool → Res) → Res :=
  @V.rec (fun _ => (Bool → Res) → Res) (fun _ => PUnit)
    (fun _ => .bad 21)
    (fun _ _ => .bad 21)
    (fun _ _ _ => .bad 21)
    (fun _ _ _ => .bad 21)
    (fun _ => .bad 21)
    (fun _ _ _ => .bad 21)
    (fun _ => .bad 21)
    (fun _ _ _ _ _ => .bad 21)
    (fun _ _ _ _ _ => .bad 21)
    (fun _ => .bad 21)
    (fun _ => .bad 21)
    (fun _ _ => .bad 21)
    (fun _ => .bad 21)
    (fun _ _ _ _ _ _ => .bad 21)
    (fun _ _ => .bad 21)
    (fun k => k true)
    (fun _ _ _ k => k false)
    (fun _ _ _ => .bad 21)
    (fun _ _ _ => .bad 21)
    ⟨⟩ (fun _ _ _ _ => ⟨⟩)
noncomputable def vNilP : V → (Bool → Res) → Res :=
  @V.rec (fun _ => (Bool → Res) → Res) (fun _ => PUnit)
    (fun _ => .bad 23)
    (fun _ _ => .bad 23)
    (fun _ _ _ => .bad 23)
    (fun _ _ _ => .bad 23)
    (fun k => k true)
    (fun _ _ k => k false)
    (fun _ => .bad 23)
    (fun _ _ _ _ _ => .bad 23)
    (fun _ _ _ _ _ => .bad 23)
    (fun _ => .bad 23)
    (fun _ => .bad 23)
    (fun _ _ => .bad 23)
    (fun _ => .bad 23)
    (fun _ _ _ _ _ _ => .bad 23)
    (fun _ _ => .bad 23)
    (fun _ => .bad 23)
    (fun _ _ _ _ => .bad 23)
    (fun _ _ _ => .bad 23)
    (fun _ _ _ => .bad 23)
    ⟨⟩ (fun _ _ _ _ => ⟨⟩)
noncomputable def vPtr2 : V → T O → Q → Nat → (Bool → Res) → Res :=
  @V.rec (fun _ => T O → Q → Nat → (Bool → Res) → Res) (fun _ => PUnit)
    (fun _ _ _ _ => .bad 24)
    (fun _ _ _ _ _ => .bad 24)
    (fun _ _ _ _ _ _ => .bad 24)
    (fun _ _ _ _ _ _ => .bad 24)
    (fun _ _ _ k => k false)
    (fun o off h p a k => eqPF h p a o off k)
    (fun _ _ _ _ => .bad 24)
    (fun _ _ _ _ _ _ _ _ => .bad 24)
    (fun _ _ _ _ _ _ _ _ => .bad 24)
    (fun _ _ _ _ => .bad 24)
    (fun _ _ _ _ => .bad 24)
    (fun _ _ _ _ _ => .bad 24)
    (fun _ _ _ _ => .bad 24)
    (fun _ _ _ _ _ _ _ _ _ => .bad 24)
    (fun _ _ _ _ _ => .bad 24)
    (fun _ _ _ _ => .bad 24)
    (fun _ _ _ _ _ _ _ => .bad 24)
    (fun _ _ _ _ _ _ => .bad 24)
    (fun _ _ _ _ _ _ => .bad 24)
    ⟨⟩ (fun _ _ _ _ => ⟨⟩)
noncomputable def vPtrEq : V → T O → V → (Bool → Res) → Res :=
  @V.rec (fun _ => T O → V → (Bool → Res) → Res) (fun _ => PUnit)
    (fun _ _ _ => .bad 25)
    (fun _ _ _ _ => .bad 25)
    (fun _ _ _ _ _ => .bad 25)
    (fun _ _ _ _ _ => .bad 25)
    (fun _ y k => vNilP y k)
    (fun o off h y k => vPtr2 y h o off k)
    (fun _ _ _ => .bad 25)
    (fun _ _ _ _ _ _ _ => .bad 25)
    (fun _ _ _ _ _ _ _ => .bad 25)
    (fun _ _ _ => .bad 25)
    (fun _ _ _ => .bad 25)
    (fun _ _ _ _ => .bad 25)
    (fun _ _ _ => .bad 25)
    (fun _ _ _ _ _ _ _ _ => .bad 25)
    (fun _ _ _ _ => .bad 25)
    (fun _ _ _ => .bad 25)
    (fun _ _ _ _ _ _ => .bad 25)
    (fun _ _ _ _ _ => .bad 25)
    (fun _ _ _ _ _ => .bad 25)
    ⟨⟩ (fun _ _ _ _ => ⟨⟩)
noncomputable def vCut : V → Nat → Nat → Nat → (V → Res) → Res :=
  @V.rec (fun _ => Nat → Nat → Nat → (V → Res) → Res) (fun _ => PUnit)
    (fun _ _ _ _ => .bad 45)
    (fun _ _ _ _ _ => .bad 45)
    (fun _ _ _ _ _ _ => .bad 45)
    (fun _ _ _ _ _ _ => .bad 45)
    (fun _ _ _ _ => .bad 45)
    (fun _ _ _ _ _ _ => .bad 45)
    (fun _ lo hi k => gdF (andF (Nat.beq lo (nat_lit 0)) (Nat.beq hi (nat_lit 0))) 40 (k .nils))
    (fun o off _ cap sz lo hi k => cutSl o off cap sz lo hi k)
    (fun o off len z sz lo hi k => gdF (Nat.beq sz z) 43 (cutSu o off len sz lo hi k))
    (fun _ lo hi k => gdF (andF (Nat.beq lo (nat_lit 0)) (Nat.beq hi (nat_lit 0))) 45 (k .se))
    (fun _ _ _ _ => .bad 45)
    (fun _ _ _ _ _ => .bad 45)
    (fun _ _ _ _ => .bad 45)
    (fun _ _ _ _ _ _ _ _ _ => .bad 45)
    (fun _ _ _ _ _ => .bad 45)
    (fun _ _ _ _ => .bad 45)
    (fun _ _ _ _ _ _ _ => .bad 45)
    (fun _ _ _ _ _ _ => .bad 45)
    (fun _ _ _ _ _ _ => .bad 45)
    ⟨⟩ (fun _ _ _ _ => ⟨⟩)
noncomputable def vSd : V → (V → Res) → Res :=
  @V.rec (fun _ => (V → Res) → Res) (fun _ => PUnit)
    (fun _ => .bad 114)
    (fun _ _ => .bad 114)
    (fun _ _ _ => .bad 114)
    (fun _ _ _ => .bad 114)
    (fun _ => .bad 114)
    (fun _ _ _ => .bad 114)
    (fun k => k .nilp)
    (fun o off len _ k => sdF len o off k)
    (fun o off len _ k => sdF len o off k)
    (fun _ => .bad 114)
    (fun _ => .bad 114)
    (fun _ _ => .bad 114)
    (fun _ => .bad 114)
    (fun _ _ _ _ _ _ => .bad 114)
    (fun _ _ => .bad 114)
    (fun _ => .bad 114)
    (fun _ _ _ _ => .bad 114)
    (fun _ _ _ => .bad 114)
    (fun _ _ _ => .bad 114)
    ⟨⟩ (fun _ _ _ _ => ⟨⟩)
noncomputable def vCells : V → Nat → T O → (Nat → List V → Res) → Res :=
  @V.rec (fun _ => Nat → T O → (Nat → List V → Res) → Res) (fun _ => PUnit)
    (fun _ _ _ => .bad 62)
    (fun _ _ _ _ => .bad 62)
    (fun _ _ _ _ _ => .bad 62)
    (fun l n sz _ k => gdF (Nat.beq sz (nat_lit 1)) 62 (byF l n fun cs => k l cs))
    (fun _ _ _ => .bad 62)
    (fun _ _ _ _ _ => .bad 62)
    (fun _ _ k => k (nat_lit 0) [])
    (fun o off len _ sz h k => clF len sz h o off k)
    (fun o off len _ sz h k => clF len sz h o off k)
    (fun _ _ k => k (nat_lit 0) [])
    (fun _ _ _ => .bad 62)
    (fun _ _ _ _ => .bad 62)
    (fun _ _ _ => .bad 62)
    (fun _ _ _ _ _ _ _ _ => .bad 62)
    (fun _ _ _ _ => .bad 62)
    (fun _ _ _ => .bad 62)
    (fun _ _ _ _ _ _ => .bad 62)
    (fun _ _ _ _ _ => .bad 62)
    (fun _ _ _ _ _ => .bad 62)
    ⟨⟩ (fun _ _ _ _ => ⟨⟩)
noncomputable def vAp : V → Nat → Nat → Nat → List V → T O → Q → Kw → Res :=
  @V.rec (fun _ => Nat → Nat → Nat → List V → T O → Q → Kw → Res) (fun _ => PUnit)
    (fun _ _ _ _ _ _ _ => .bad 66)
    (fun _ _ _ _ _ _ _ _ => .bad 66)
    (fun _ _ _ _ _ _ _ _ _ => .bad 66)
    (fun _ _ _ _ _ _ _ _ _ => .bad 66)
    (fun _ _ _ _ _ _ _ => .bad 66)
    (fun _ _ _ _ _ _ _ _ _ => .bad 66)
    (fun ty sz m new h nx k => apN m ty sz new h nx k)
    (fun o off len cap ty sz m new h nx k => apSl o off len cap ty sz m new h nx k)
    (fun o off len z ty sz m new h nx k => gdF (Nat.beq sz z) 63 (apSu m o off len ty sz new h nx k))
    (fun _ _ _ _ _ _ _ => .bad 66)
    (fun _ _ _ _ _ _ _ => .bad 66)
    (fun _ _ _ _ _ _ _ _ => .bad 66)
    (fun _ _ _ _ _ _ _ => .bad 66)
    (fun _ _ _ _ _ _ _ _ _ _ _ _ => .bad 66)
    (fun _ _ _ _ _ _ _ _ => .bad 66)
    (fun _ _ _ _ _ _ _ => .bad 66)
    (fun _ _ _ _ _ _ _ _ _ _ => .bad 66)
    (fun _ _ _ _ _ _ _ _ _ => .bad 66)
    (fun _ _ _ _ _ _ _ _ _ => .bad 66)
    ⟨⟩ (fun _ _ _ _ => ⟨⟩)
noncomputable def vCp : V → Nat → List V → T O → Q → Kw → Res :=
  @V.rec (fun _ => Nat → List V → T O → Q → Kw → Res) (fun _ => PUnit)
    (fun _ _ _ _ _ => .bad 73)
    (fun _ _ _ _ _ _ => .bad 73)
    (fun _ _ _ _ _ _ _ => .bad 73)
    (fun _ _ _ _ _ _ _ => .bad 73)
    (fun _ _ _ _ _ => .bad 73)
    (fun _ _ _ _ _ _ _ => .bad 73)
    (fun _ _ _ _ _ => .bad 73)
    (fun o off _ _ n0 new h nx k => wrF o off new h fun h' => k (.int .i64 (.ofNat n0)) h' nx)
    (fun o off _ _ n0 new h nx k => wrF o off new h fun h' => k (.int .i64 (.ofNat n0)) h' nx)
    (fun _ _ _ _ _ => .bad 73)
    (fun _ _ _ _ _ => .bad 73)
    (fun _ _ _ _ _ _ => .bad 73)
    (fun _ _ _ _ _ => .bad 73)
    (fun _ _ _ _ _ _ _ _ _ _ => .bad 73)
    (fun _ _ _ _ _ _ => .bad 73)
    (fun _ _ _ _ _ => .bad 73)
    (fun _ _ _ _ _ _ _ _ => .bad 73)
    (fun _ _ _ _ _ _ _ => .bad 73)
    (fun _ _ _ _ _ _ _ => .bad 73)
    ⟨⟩ (fun _ _ _ _ => ⟨⟩)
noncomputable def vTa : V → Bool → Nat → V → (V → Res) → Res :=
  @V.rec (fun _ => Bool → Nat → V → (V → Res) → Res) (fun _ => PUnit)
    (fun _ _ _ _ => .bad 121)
    (fun _ _ _ _ _ => .bad 121)
    (fun _ _ _ _ _ _ => .bad 121)
    (fun _ _ _ _ _ _ => .bad 121)
    (fun _ _ _ _ => .bad 121)
    (fun _ _ _ _ _ _ => .bad 121)
    (fun _ _ _ _ => .bad 121)
    (fun _ _ _ _ _ _ _ _ => .bad 121)
    (fun _ _ _ _ _ _ _ _ => .bad 121)
    (fun _ _ _ _ => .bad 121)
    (fun _ _ _ _ => .bad 121)
    (fun _ _ _ _ _ => .bad 121)
    (fun _ _ _ _ => .bad 121)
    (fun _ _ _ _ _ _ _ _ _ => .bad 121)
    (fun _ _ _ _ _ => .bad 121)
    (fun okb _ z k => taMs okb z k)
    (fun t u _ okb tt z k => taIfc okb tt z t u k)
    (fun _ _ _ _ _ _ => .bad 121)
    (fun _ _ _ _ _ _ => .bad 121)
    ⟨⟩ (fun _ _ _ _ => ⟨⟩)
noncomputable def vIfc : V → (Nat → V → Res) → Res :=
  @V.rec (fun _ => (Nat → V → Res) → Res) (fun _ => PUnit)
    (fun _ => .bad 123)
    (fun _ _ => .bad 123)
    (fun _ _ _ => .bad 123)
    (fun _ _ _ => .bad 123)
    (fun _ => .bad 123)
    (fun _ _ _ => .bad 123)
    (fun _ => .bad 123)
    (fun _ _ _ _ _ => .bad 123)
    (fun _ _ _ _ _ => .bad 123)
    (fun _ => .bad 123)
    (fun _ => .bad 123)
    (fun _ _ => .bad 123)
    (fun _ => .bad 123)
    (fun _ _ _ _ _ _ => .bad 123)
    (fun _ _ => .bad 123)
    (fun _ => .bad 123)
    (fun t u _ k => k t u)
    (fun _ _ _ => .bad 123)
    (fun _ _ _ => .bad 123)
    ⟨⟩ (fun _ _ _ _ => ⟨⟩)
noncomputable def vU8 : V → (Nat → Res) → Res :=
  @V.rec (fun _ => (Nat → Res) → Res) (fun _ => PUnit)
    (fun _ => .bad 115)
    (fun _ _ => .bad 115)
    (fun kd n k => u8F kd n k)
    (fun _ _ _ => .bad 115)
    (fun _ => .bad 115)
    (fun _ _ _ => .bad 115)
    (fun _ => .bad 115)
    (fun _ _ _ _ _ => .bad 115)
    (fun _ _ _ _ _ => .bad 115)
    (fun _ => .bad 115)
    (fun _ => .bad 115)
    (fun _ _ => .bad 115)
    (fun _ => .bad 115)
    (fun _ _ _ _ _ _ => .bad 115)
    (fun _ _ => .bad 115)
    (fun _ => .bad 115)
    (fun _ _ _ _ => .bad 115)
    (fun _ _ _ => .bad 115)
    (fun _ _ _ => .bad 115)
    ⟨⟩ (fun _ _ _ _ => ⟨⟩)
def xC (v : V) : Xg := fun _ k => k v
def xBad : Xg := fun _ _ => .bad 2
def xsN : Xs := fun _ k => k []
def xsA (g : Xg) (r : Xs) : Xs := fun tm k => g tm fun v => r tm fun l => k (v :: l)
def ptN : Dt := fun _ t k => k t
abbrev Bd := T V → List V → (List V → Res) → Res
def bdN : Bd := fun _ l k => k l
noncomputable def bdA (off n : Nat) (g : Xg) (r : Bd) : Bd := fun tm l k => g tm fun v => vCv v fun c => lenF c fun m => gdF (Nat.beq m n) 28 (overF l off c fun l' => r tm l' k)
abbrev Og := T V → Nat → (Nat → Res) → Res
def ogN : Og := fun _ d k => k d
noncomputable def ogS (g : Xg) : Og := fun tm _ k => g tm fun v => vN v k
abbrev Sg := T V → T V → (T V → Res) → Res
def sgN : Sg := fun _ t k => k t
noncomputable def sgA (i sz : Nat) (g : Xg) (r : Sg) : Sg := fun tm t k => g tm fun v => vCv v fun c => lenF c fun m => gdF (Nat.beq m sz) 57 (putsF c (Nat.mul i sz) t fun t' => r tm t' k)
def pMv (g : Xg) : Pg := fun tm _ k => g tm k
noncomputable def pPick (c x y : Xg) : Pg := fun tm _ k => c tm fun v => vB v fun t => @Bool.rec (fun _ => Xg → Xg → Xg) (fun _ y => y) (fun x _ => x) t x y tm k
noncomputable def pBin (op : BinOp) (x y : Xg) : Pg := fun tm _ k => x tm fun a => y tm fun b => vBin a op b k
noncomputable def pNil (w : V → (Bool → Res) → Res) (neg : Bool) (x y : Xg) : Pg := fun tm _ k => x tm fun a => y tm fun _ => w a fun t => nbF neg t k
noncomputable def pEqB (neg : Bool) (x y : Xg) : Pg := fun tm _ k => x tm fun a => y tm fun b => vB a fun p => vB b fun q => nbF neg (beqF p q) k
noncomputable def pEqP (neg : Bool) (x y : Xg) : Pg := fun tm h k => x tm fun a => y tm fun b => vPtrEq a h b fun t => nbF neg t k
noncomputable def pNot (x : Xg) : Pg := fun tm _ k => x tm fun v => vB v fun t => bF (notF t) k
noncomputable def pNeg (x : Xg) : Pg := fun tm _ k => x tm fun v => vI v fun kd n => wrapF (subF (.ofNat (nat_lit 0)) n) kd k
noncomputable def pCvi (kd : IntKind) (x : Xg) : Pg := fun tm _ k => x tm fun v => vI v fun _ n => wrapF n kd k
noncomputable def pCvs (x : Xg) : Pg := fun tm _ k => x tm fun v => vS v fun l n => k (.str l n)
noncomputable def pCis (x : Xg) : Pg := fun tm _ k => x tm fun v => vN v fun n => gdF (Nat.ble (Nat.succ n) (nat_lit 128)) 113 (k (.str (nat_lit 1) n))
def pBld (z : List V) (b : Bd) : Pg := fun tm _ k => b tm z fun l => k (.agg l)
noncomputable def pLd1 (x : Xg) : Pg := fun tm h k => x tm fun v => vP v fun o off => ldF h o off k
noncomputable def pLdn (n : Nat) (x : Xg) : Pg := fun tm h k => x tm fun v => vP v fun o off => ldsF h o off n fun l => k (.agg l)
noncomputable def pNck (x : Xg) : Pg := fun tm _ k => x tm fun v => vNck v k
noncomputable def pFa (off : Nat) (x : Xg) : Pg := fun tm _ k => x tm fun v => vP v fun o a => fN (Nat.add a off) fun a' => k (.ptr o a')
noncomputable def pFd (agg : Bool) (off n : Nat) (x : Xg) : Pg := fun tm _ k => x tm fun v => vA v fun l => fdF agg off n l k
noncomputable def pIa (sz : Nat) (x i : Xg) : Pg := fun tm _ k => x tm fun v => i tm fun j => vN j fun j => vElem v sz j k
noncomputable def pIaa (len sz : Nat) (x i : Xg) : Pg := fun tm _ k => x tm fun v => i tm fun j => vN j fun j => vP v fun o a => gdF (Nat.ble (Nat.succ j) len) 49 (fN (Nat.add a (Nat.mul j sz)) fun a' => k (.ptr o a'))
noncomputable def pIxs (x i : Xg) : Pg := fun tm _ k => x tm fun v => i tm fun j => vN j fun j => vS v fun l n => gdF (Nat.ble (Nat.succ j) l) 50 (fN (Nat.mod (Nat.div n (powF j)) (nat_lit 256)) fun c => k (.int .u8 (.ofNat c)))
noncomputable def pIxa (agg : Bool) (len sz : Nat) (x i : Xg) : Pg := fun tm _ k => x tm fun v => i tm fun j => vN j fun j => vA v fun l => gdF (Nat.ble (Nat.succ j) len) 51 (fN (Nat.mul j sz) fun a => fdF agg a sz l k)
noncomputable def pSlS (x : Xg) (lo hi : Og) : Pg := fun tm _ k => x tm fun v => vS v fun l n => lo tm (nat_lit 0) fun a => hi tm l fun b => gdF (andF (Nat.ble a b) (Nat.ble b l)) 52 (fN (Nat.sub b a) fun l' => fN (Nat.mod (Nat.div n (powF a)) (powF (Nat.sub b a))) fun n' => k (.str l' n'))
noncomputable def pSlL (sz : Nat) (x : Xg) (lo hi : Og) : Pg := fun tm _ k => x tm fun v => vLen v fun len => lo tm (nat_lit 0) fun a => hi tm len fun b => vCut v sz a b k
def pMki (t : Nat) (x : Xg) : Pg := fun tm _ k => x tm fun v => k (.ifc t v)
def pMkf (f : Q) (a b : Xs) : Pg := fun tm _ k => a tm fun l => b tm fun m => k (.fn f l m)
noncomputable def keF : KK → T O → V → V → (Bool → Res) → Res :=
  @KK.rec (fun _ => T O → V → V → (Bool → Res) → Res)
    (fun _ x y k => vSc x (nat_lit 35) fun l n => vSc y (nat_lit 32) fun m j => k (andF (Nat.beq l m) (Nat.beq n j)))
    (fun _ x y k => vIc x (nat_lit 35) fun kd a => vIc y (nat_lit 34) fun kd' b => gdF (Nat.beq (ikNF kd) (ikNF kd')) 33 (k (eqIF a b)))
    (fun h x y k => vPc x (nat_lit 35) fun o a => vPc y (nat_lit 34) fun o' b => eqPF h o a o' b k)
    (fun fs h x y k => keyEq (.st fs) h x y k)
abbrev Ke := V → V → (Bool → Res) → Res
noncomputable def findF : List (V × V) → Ke → V → (V → Res) → Res → Res :=
  @List.rec (V × V) (fun _ => Ke → V → (V → Res) → Res → Res) (fun _ _ _ kn => kn)
    (fun p _ ih e x k kn => @Prod.rec V V (fun _ => (Ke → V → (V → Res) → Res → Res) → Ke → V → (V → Res) → Res → Res) (fun y v ih e x k kn => e x y fun b => ifF b (k v) (ih e x k kn)) p ih e x k kn)
abbrev Ku := List (V × V) → Nat → V → Res
abbrev Ut := Ke → V → (V → V) → V → Nat → Ku → Res
noncomputable def updF : List (V × V) → Ut :=
  @List.rec (V × V) (fun _ => Ut) (fun _ x f z i k => k [(x, f z)] i z)
    (fun p es ih e x f z i k => @Prod.rec V V (fun _ => List (V × V) → Ut → Ut)
      (fun y u es ih e x f z i k => e x y fun b => @Bool.rec (fun _ => V → V → List (V × V) → Ut → Ut) (fun y u _ ih e x f z i k => fN (Nat.succ i) fun i' => ih e x f z i' fun es' j w => k ((y, u) :: es') j w) (fun _ u es _ _ x f _ i k => k ((x, f u) :: es) i u) b y u es ih e x f z i k) p es ih e x f z i k)
noncomputable def kcF : KK → V → Res → Res := @KK.rec (fun _ => V → Res → Res) (fun _ k => k) (fun _ k => k) (fun _ k => k) (fun fs x k => keyCk (.st fs) x k)
noncomputable def lkMiss (ok : Bool) (z : V) (k : V → Res) : Res := @Bool.rec (fun _ => V → (V → Res) → Res) (fun z k => k z) (fun z k => k (.tup [z, .bool false])) ok z k
noncomputable def pLk (s : KK) (ok : Bool) (z : V) (m key : Xg) : Pg := fun tm h k => m tm fun m => key tm fun x => kcF s x (vM m (nat_lit 53) (fun o => goT o h fun ob => mapF ob fun es => findF es (keF s h) x (fun v => lkHit ok v k) (lkMiss ok z k)) (lkMiss ok z k))
noncomputable def pLenS (x : Xg) : Pg := fun tm _ k => x tm fun v => vS v fun l _ => k (.int .i64 (.ofNat l))
noncomputable def pLenL (x : Xg) : Pg := fun tm _ k => x tm fun v => vLen v fun l => k (.int .i64 (.ofNat l))
noncomputable def pLenM (x : Xg) : Pg := fun tm h k => x tm fun v => vM v (nat_lit 54) (fun o => goT o h fun ob => mapF ob fun es => lenF es fun n => k (.int .i64 (.ofNat n))) (k (.int .i64 (.ofNat (nat_lit 0))))
noncomputable def pSd (x : Xg) : Pg := fun tm _ k => x tm fun v => vSd v k
noncomputable def pMax (x y : Xg) : Pg := fun tm _ k => x tm fun a => y tm fun b => vI a fun ka n => vI b fun _ m => ifF (leF m n) (k (.int ka n)) (k (.int ka m))
noncomputable def pEx (i : Nat) (x : Xg) : Pg := fun tm _ k => x tm fun v => vT v fun l => nthF l i k
noncomputable def pTa (ok : Bool) (t : Nat) (z : V) (x : Xg) : Pg := fun tm _ k => x tm fun v => vTa v ok t z k
def pRare (b : PB) : Pg := fun tm h k => pK b tm h k
def aAl (ty n : Nat) (t : T V) : Ag := fun _ k => k (.row n t [] (nat_lit 0) ty true) fun q => .ptr q (nat_lit 0)
noncomputable def aBx (ty n : Nat) (x : Xg) : Ag := fun tm k => x tm fun v => vCv v fun c => lenF c fun m => gdF (Nat.beq m n) 58 (putsF c (nat_lit 0) .nil fun t => k (.row n t [] (nat_lit 0) ty true) fun q => .ptr q (nat_lit 0))
noncomputable def aBsl (ty sz len : Nat) (t : T V) (g : Sg) : Ag := fun tm k => g tm t fun t' => fN (Nat.mul len sz) fun n => k (.row n t' [] (nat_lit 0) ty true) fun q => .sl q (nat_lit 0) len len
def aMkm : Ag := fun _ k => k (.map []) fun q => .map q
def aRare (b : AB) : Ag := fun tm k => aK b tm k
noncomputable def wSt (n : Nat) (x y : Xg) : Wg := fun tm h nx k => x tm fun p => vP p fun o off => y tm fun v => vCv v fun c => lenF c fun m => gdF (Nat.beq m n) 67 (wrF o off c h fun h' => k V.undef h' nx)
noncomputable def wMu (s : KK) (m key x : Xg) : Wg := fun tm h nx k => m tm fun m => key tm fun kv => x tm fun v => kcF s kv (vM m (nat_lit 68) (fun o => goT o h fun ob => mapF ob fun es => updF es (keF s h) kv (fun _ => v) v (nat_lit 0) fun es' _ _ => setMF ob es' fun ob' => doT o ob' h fun h' => k V.undef h' nx) (.bad 68))
noncomputable def wMe (s : KK) (z : V) (m key : Xg) : Wg := fun tm h nx k => m tm fun m => key tm fun kv => kcF s kv (vM m (nat_lit 69) (fun o => goT o h fun ob => mapEF ob fun es => updF es (keF s h) kv (fun u => u) z (nat_lit 0) fun es' i u => doT o (.map es') h fun h' => k (.tup [u, .int .i64 (.ofNat i)]) h' nx) (.bad 69))
noncomputable def wAp (ty sz : Nat) (x y : Xg) : Wg := fun tm h nx k => x tm fun a => y tm fun b => vCells b sz h fun m new => gdF (Nat.ble m (nat_lit 16777216)) 71 (vAp a ty sz m new h nx k)
noncomputable def wCp (sz : Nat) (x y : Xg) : Wg := fun tm h nx k => x tm fun a => y tm fun b => vLen a fun n => vCells b sz h fun m new => gdF (Nat.beq n m) 72 (vCp a n new h nx k)
noncomputable def wSb (x : Xg) : Wg := fun tm h nx k => x tm fun v => vS v fun l n => byF l n fun cs => putsF cs (nat_lit 0) .nil fun t => doT nx (.ro l t) h fun h' => sqT nx fun nx' => k (.su nx (nat_lit 0) l (nat_lit 1)) h' nx'
def wRare (b : WB) : Wg := fun tm h nx k => wK b tm h nx k
noncomputable def endF (l : Q) (j : Jump) (st : Nat) (b : Bool) (ky : Kr) (s : S) : Res :=
  @S.rec (fun _ => Res) (fun h nx _ => goT l h fun ob => loopF ob fun _ _ fn tm params asg body dfs => doT l (.loop (.mk st j fn tm params asg body dfs)) h fun h' => ky (.bool b) h' nx) s
noncomputable def lookF : List (Nat × St) → Nat → St → St :=
  @List.rec (Nat × St) (fun _ => Nat → St → St) (fun _ kn => kn)
    (fun p _ ih id kn => @Prod.rec Nat St (fun _ => (Nat → St → St) → Nat → St → St) (fun i κ ih id kn => @Bool.rec (fun _ => St → (Nat → St → St) → Nat → St → St) (fun _ ih id kn => ih id kn) (fun κ _ _ _ => κ) (Nat.beq i id) κ ih id kn) p ih id kn)
def kn94 : Nat → Kr → St := fun _ _ _ _ => .bad 94
noncomputable def kn94' (l : Q) : Nat → Kr → St := fun id ky _ s => endF l (.exit id) (nat_lit 2) false ky s
noncomputable def exitF : Cx → Nat → St :=
  @Cx.rec (fun _ => Nat → St) fun _ _ rd env _ ky id => lookF env id (@Option.rec Q (fun _ => Nat → Kr → St) kn94 kn94' rd id ky)
noncomputable def retF : Cx → St :=
  @Cx.rec (fun _ => St) fun _ _ rd _ kr ky => @Option.rec Q (fun _ => St → Kr → St) (fun kr _ => kr) (fun l _ ky _ s => endF l .ret (nat_lit 2) false ky s) rd kr ky
noncomputable def pendF : Jump → Cx → St → St := @Jump.rec (fun _ => Cx → St → St) (fun _ κ => κ) (fun cx _ => retF cx) (fun id cx _ => exitF cx id)
noncomputable def erfF (cx : Cx) (l : Q) (κ : St) (tm : T V) (h : T O) (nx : Q) (ds : List Df) : Res :=
  goT l h fun ob => loopF ob fun st pend fn tm' params asg body dfs => gdF (notF (Nat.beq st (nat_lit 1))) 102 (doT l (.loop (.mk (nat_lit 3) pend fn tm' params asg body dfs)) h fun h' => pendF pend cx κ tm ⟨h', nx, ds⟩)
noncomputable def cxCl : Cx → Cl := @Cx.rec (fun _ => Cl) fun cl _ _ _ _ _ => cl
noncomputable def rfO (g : Xg) (params : List Q) (asg body : C) : Op := fun cx κ tm s =>
  g tm fun fv => @S.rec (fun _ => Res) (fun h nx ds => vFn fv (fun g fs caps => @Option.rec Q (fun _ => Res)
      (sqT nx fun n1 => appF fs (.yld n1 :: caps) fun args => doT nx (.dfd false) h fun h1 => doT n1 (.loop (.mk (nat_lit 0) .none cx.f tm params asg body nx)) h1 fun h2 => sqT n1 fun n2 =>
          cxCl cx (.fn g [] []) args false h2 n2 fun _ h nx' => erfF cx n1 κ tm h nx' (.coll nx :: ds))
      (fun l => appF fs (.yld nx :: caps) fun args => goT l h fun ob => loopF ob fun _ _ _ _ _ _ _ dfs => doT nx (.loop (.mk (nat_lit 0) .none cx.f tm params asg body dfs)) h fun h2 => sqT nx fun n2 =>
          cxCl cx (.fn g [] []) args false h2 n2 fun _ h nx' => erfF cx nx κ tm h nx' ds) cx.rd)
    (fun _ => .bad 95)) s
noncomputable def opP (p : Pg) (d : Dt) : Op := fun _ κ tm s => p tm s.h fun v => d v tm fun tm' => κ tm' s
noncomputable def opA (a : Ag) (d : Dt) : Op := fun _ κ tm s => @S.rec (fun _ => Ag → Dt → St → T V → Res) (fun h nx ds a d κ tm => a tm fun ob mk => doT nx ob h fun h' => d (mk nx) tm fun tm' => sqT nx fun nx' => κ tm' ⟨h', nx', ds⟩) s a d κ tm
noncomputable def opW (w : Wg) (d : Dt) : Op := fun _ κ tm s => @S.rec (fun _ => Wg → Dt → St → T V → Res) (fun h nx ds w d κ tm => w tm h nx fun v h' nx' => d v tm fun tm' => κ tm' ⟨h', nx', ds⟩) s w d κ tm
noncomputable def opCall (g : Xg) (gs : Xs) (d : Dt) : Op := fun cx κ tm s => g tm fun fv => gs tm fun vs => @S.rec (fun _ => Cl → V → List V → Dt → St → T V → Res) (fun h nx ds cl fv vs d κ tm => cl fv vs false h nx fun v h' nx' => d v tm fun tm' => κ tm' ⟨h', nx', ds⟩) s (cxCl cx) fv vs d κ tm
noncomputable def methF : List (Nat × Q) → Nat → (Q → Res) → Res :=
  @List.rec (Nat × Q) (fun _ => Nat → (Q → Res) → Res) (fun _ _ => .bad 122) (fun p _ ih t k => @Prod.rec Nat Q (fun _ => (Nat → (Q → Res) → Res) → Nat → (Q → Res) → Res) (fun u f ih t k => ifF (Nat.beq u t) (k f) (ih t k)) p ih t k)
noncomputable def opInv (ms : List (Nat × Q)) (g : Xg) (gs : Xs) (d : Dt) : Op := fun cx κ tm s => g tm fun v => gs tm fun vs => vIfc v fun t u => methF ms t fun f => @S.rec (fun _ => Res) (fun h nx ds => cxCl cx (.fn f [] []) (u :: vs) false h nx fun v h' nx' => d v tm fun tm' => κ tm' ⟨h', nx', ds⟩) s
noncomputable def opDfr (g : Xg) (gs : Xs) (d : Dt) : Op := fun cx κ tm s => (match cx.rd with
  | some _ => .bad 89
  | none => g tm fun fv => gs tm fun vs => (match fv with
    | .fn g fs caps => appX vs caps fun vs' => appX fs vs' fun vs' => d V.undef tm fun tm' => @S.rec (fun _ => Res) (fun h nx ds => κ tm' ⟨h, nx, .call g vs' :: ds⟩) s
    | _ => .bad 90))
noncomputable def opDfd (k : KK) (m key : Xg) (d : Dt) : Op := fun cx κ tm s => (match cx.rd with
  | some _ => .bad 89
  | none => m tm fun m => key tm fun kv => d V.undef tm fun tm' => @S.rec (fun _ => Res) (fun h nx ds => κ tm' ⟨h, nx, .del k m kv :: ds⟩) s)
def opRcv (d : Dt) : Op := fun cx κ tm s => (match cx.rd with
  | some _ => .bad 91
  | none => d .nili tm fun tm' => κ tm' s)
noncomputable def opG (g : Xg) (w : Bool) (o : Op) (d : Dt) : Op := fun cx κ tm s => g tm fun v => vGuard v w (o cx κ) (fun tm s => d V.undef tm fun tm' => κ tm' s) tm s
noncomputable def opChk (p : Pg) (g : Xg) : Op := fun _ κ tm s => p tm s.h fun v => g tm fun u => gdF (eqV v u) 93 (κ tm s)
noncomputable def opChkG (g : Xg) (w : Bool) (o : Op) : Op := fun cx κ tm s => g tm fun v => vGuard v w (o cx κ) κ tm s
def opI : Op := fun _ κ => κ
def opS (f g : Op) : Op := fun cx κ tm s => f cx (g cx κ) tm s
noncomputable def opC (x : Xg) (f g : Op) : Op := fun cx κ tm s => x tm fun v => vCond v (f cx κ) (g cx κ) tm s
noncomputable def opB (id : Nat) (o : Op) : Op := fun cx κ => @Cx.rec (fun _ => Nat → Op → St → St) (fun cl f rd env kr ky id o κ => o ⟨cl, f, rd, (id, κ) :: env, kr, ky⟩ κ) cx id o κ
noncomputable def opL (o : Op) : Op := fun cx _ => @Nat.rec (fun _ => St) stBad (fun _ again => o cx again) (nat_lit 1000000)
noncomputable def opE (id : Nat) : Op := fun cx _ => exitF cx id
noncomputable def opR : Op := fun cx _ => retF cx
def opBad : Op := fun _ _ _ _ => .bad 210
noncomputable def ac6 : QN Q5 → ((N5 V (T5 V) → (V → Res) → Res) → D) → D := @QN.rec Q5 (fun _ => ((N5 V (T5 V) → (V → Res) → Res) → D) → D) (fun k => k ev6) (fun _ _ => ⟨opBad⟩) (fun _ _ => ⟨opBad⟩) (fun _ _ => ⟨opBad⟩) (fun _ _ => ⟨opBad⟩)
noncomputable def pc6 : QN Q5 → (Pv6 → D) → D := @QN.rec Q5 (fun _ => (Pv6 → D) → D) (fun k => k nv6) (fun _ _ => ⟨opBad⟩) (fun _ _ => ⟨opBad⟩) (fun _ _ => ⟨opBad⟩) (fun _ _ => ⟨opBad⟩)
noncomputable def ac7 : QN Q6 → ((N5 V (T6 V) → (V → Res) → Res) → D) → D := @QN.rec Q6 (fun _ => ((N5 V (T6 V) → (V → Res) → Res) → D) → D) (fun k => k ev7) (fun q k => ac6 q fun g => k (xv7a g)) (fun q k => ac6 q fun g => k (xv7b g)) (fun q k => ac6 q fun g => k (xv7c g)) (fun q k => ac6 q fun g => k (xv7d g))
noncomputable def pc7 : QN Q6 → (Pv7 → D) → D := @QN.rec Q6 (fun _ => (Pv7 → D) → D) (fun k => k nv7) (fun q k => pc6 q fun g => k (uv7a g)) (fun q k => pc6 q fun g => k (uv7b g)) (fun q k => pc6 q fun g => k (uv7c g)) (fun q k => pc6 q fun g => k (uv7d g))
noncomputable def ac8 : QN Q7 → ((N5 V (T7 V) → (V → Res) → Res) → D) → D := @QN.rec Q7 (fun _ => ((N5 V (T7 V) → (V → Res) → Res) → D) → D) (fun k => k ev8) (fun q k => ac7 q fun g => k (xv8a g)) (fun q k => ac7 q fun g => k (xv8b g)) (fun q k => ac7 q fun g => k (xv8c g)) (fun q k => ac7 q fun g => k (xv8d g))
noncomputable def pc8 : QN Q7 → (Pv8 → D) → D := @QN.rec Q7 (fun _ => (Pv8 → D) → D) (fun k => k nv8) (fun q k => pc7 q fun g => k (uv8a g)) (fun q k => pc7 q fun g => k (uv8b g)) (fun q k => pc7 q fun g => k (uv8c g)) (fun q k => pc7 q fun g => k (uv8d g))
noncomputable def ac9 : QN Q8 → ((N5 V (T8 V) → (V → Res) → Res) → D) → D := @QN.rec Q8 (fun _ => ((N5 V (T8 V) → (V → Res) → Res) → D) → D) (fun k => k ev9) (fun q k => ac8 q fun g => k (xv9a g)) (fun q k => ac8 q fun g => k (xv9b g)) (fun q k => ac8 q fun g => k (xv9c g)) (fun q k => ac8 q fun g => k (xv9d g))
noncomputable def pc9 : QN Q8 → (Pv9 → D) → D := @QN.rec Q8 (fun _ => (Pv9 → D) → D) (fun k => k nv9) (fun q k => pc8 q fun g => k (uv9a g)) (fun q k => pc8 q fun g => k (uv9b g)) (fun q k => pc8 q fun g => k (uv9c g)) (fun q k => pc8 q fun g => k (uv9d g))
noncomputable def ac10 : QN Q9 → ((N5 V (T9 V) → (V → Res) → Res) → D) → D := @QN.rec Q9 (fun _ => ((N5 V (T9 V) → (V → Res) → Res) → D) → D) (fun k => k ev10) (fun q k => ac9 q fun g => k (xv10a g)) (fun q k => ac9 q fun g => k (xv10b g)) (fun q k => ac9 q fun g => k (xv10c g)) (fun q k => ac9 q fun g => k (xv10d g))
noncomputable def pc10 : QN Q9 → (Pv10 → D) → D := @QN.rec Q9 (fun _ => (Pv10 → D) → D) (fun k => k nv10) (fun q k => pc9 q fun g => k (uv10a g)) (fun q k => pc9 q fun g => k (uv10b g)) (fun q k => pc9 q fun g => k (uv10c g)) (fun q k => pc9 q fun g => k (uv10d g))
noncomputable def cX : X → (Xg → D) → D := @X.rec (fun _ => (Xg → D) → D) (fun q k => ac10 q fun g => k g) (fun v k => k (xC v)) (fun k => k xBad)
noncomputable def cXs : List X → (Xs → D) → D := @List.rec X (fun _ => (Xs → D) → D) (fun k => k xsN) (fun x _ ih k => cX x fun g => ih fun r => k (xsA g r))
noncomputable def cDst : Option Q → (Dt → D) → D := @Option.rec Q (fun _ => (Dt → D) → D) (fun k => k ptN) (fun q k => pc10 q fun p => k p)
noncomputable def cOg : Option X → (Og → D) → D := @Option.rec X (fun _ => (Og → D) → D) (fun k => k ogN) (fun x k => cX x fun g => k (ogS g))
noncomputable def cBd : List (Nat × Nat × X) → (Bd → D) → D := @List.rec (Nat × Nat × X) (fun _ => (Bd → D) → D) (fun k => k bdN)
  (fun p _ ih k => @Prod.rec Nat (Nat × X) (fun _ => D) (fun off nx => @Prod.rec Nat X (fun _ => D) (fun n x => cX x fun g => ih fun r => k (bdA off n g r)) nx) p)
noncomputable def cSg (sz : Nat) : List (Nat × X) → (Sg → D) → D := @List.rec (Nat × X) (fun _ => (Sg → D) → D) (fun k => k sgN)
  (fun p _ ih k => @Prod.rec Nat X (fun _ => D) (fun i x => cX x fun g => ih fun r => k (sgA i sz g r)) p)
noncomputable def cP : PB → (Pg → D) → D :=
  @PB.rec (fun _ => (Pg → D) → D)
    (mv := fun x k => cX x fun g => k (pMv g))
    (pick := fun c x y k => cX c fun c => cX x fun x => cX y fun y => k (pPick c x y))
    (bin := fun op x y k => cX x fun x => cX y fun y => k (pBin op x y))
    (eq := fun neg m x y k => cX x fun x => cX y fun y => k (@EqM.rec (fun _ => Pg) (pEqP neg x y) (pEqB neg x y) (pNil vNilS neg x y) (pNil vNilM neg x y) (pNil vNilF neg x y) (pNil vNilI neg x y) m))
    (not := fun x k => cX x fun g => k (pNot g))
    (neg := fun x k => cX x fun g => k (pNeg g))
    (cvi := fun kd x k => cX x fun g => k (pCvi kd g))
    (cvs := fun x k => cX x fun g => k (pCvs g))
    (cis := fun x k => cX x fun g => k (pCis g))
    (ctu := fun x k => k (pRare (.ctu x)))
    (cfu := fun ty n x k => k (pRare (.cfu ty n x)))
    (bld := fun z ps k => cBd ps fun b => k (pBld z b))
    (ld1 := fun x k => cX x fun g => k (pLd1 g))
    (ldn := fun n x k => cX x fun g => k (pLdn n g))
    (nck := fun x k => cX x fun g => k (pNck g))
    (fa := fun off x k => cX x fun g => k (pFa off g))
    (fd := fun agg off n x k => cX x fun g => k (pFd agg off n g))
    (ia := fun sz x i k => cX x fun x => cX i fun i => k (pIa sz x i))
    (iaa := fun len sz x i k => cX x fun x => cX i fun i => k (pIaa len sz x i))
    (ixs := fun x i k => cX x fun x => cX i fun i => k (pIxs x i))
    (ixa := fun agg len sz x i k => cX x fun x => cX i fun i => k (pIxa agg len sz x i))
    (slS := fun x lo hi k => cX x fun x => cOg lo fun lo => cOg hi fun hi => k (pSlS x lo hi))
    (slL := fun sz x lo hi mx k => @Option.rec X (fun _ => D) (cX x fun x => cOg lo fun lo => cOg hi fun hi => k (pSlL sz x lo hi)) (fun m => k (pRare (.slL sz x lo hi (some m)))) mx)
    (mki := fun t x k => cX x fun g => k (pMki t g))
    (mkf := fun f fs caps k => cXs fs fun a => cXs caps fun b => k (pMkf f a b))
    (lk := fun s ok z m key k => cX m fun m => cX key fun key => k (pLk s ok z m key))
    (lenS := fun x k => cX x fun g => k (pLenS g))
    (lenL := fun x k => cX x fun g => k (pLenL g))
    (lenM := fun x k => cX x fun g => k (pLenM g))
    (sd := fun x k => cX x fun g => k (pSd g))
    (max := fun x y k => cX x fun x => cX y fun y => k (pMax x y))
    (ex := fun i x k => cX x fun g => k (pEx i g))
    (ta := fun ok t z x k => cX x fun g => k (pTa ok t z g))
    (bad := fun k => k (pRare .bad))
noncomputable def cA : AB → (Ag → D) → D :=
  @AB.rec (fun _ => (Ag → D) → D)
    (al := fun ty n t k => k (aAl ty n t))
    (bx := fun ty n x k => cX x fun g => k (aBx ty n g))
    (bsl := fun ty sz len t ps k => cSg sz ps fun g => k (aBsl ty sz len t g))
    (mkm := fun k => k aMkm)
    (mks := fun ty sz z len cap k => k (aRare (.mks ty sz z len cap)))
noncomputable def cW : WB → (Wg → D) → D :=
  @WB.rec (fun _ => (Wg → D) → D)
    (st := fun n x y k => cX x fun x => cX y fun y => k (wSt n x y))
    (mu := fun s m x v k => cX m fun m => cX x fun x => cX v fun v => k (wMu s m x v))
    (me := fun s z m x k => cX m fun m => cX x fun x => k (wMe s z m x))
    (es := fun m s v k => k (wRare (.es m s v)))
    (ap := fun ty sz x y k => cX x fun x => cX y fun y => k (wAp ty sz x y))
    (cp := fun sz x y k => cX x fun x => cX y fun y => k (wCp sz x y))
    (sb := fun x k => cX x fun g => k (wSb g))
    (us := fun ty x n k => k (wRare (.us ty x n)))
noncomputable def cOB : OB → Dt → (Op → D) → D :=
  @OB.rec (fun _ => Dt → (Op → D) → D)
    (p := fun b d k => cP b fun p => k (opP p d))
    (a := fun b d k => cA b fun a => k (opA a d))
    (w := fun b d k => cW b fun w => k (opW w d))
    (call := fun x args d k => cX x fun g => cXs args fun gs => k (opCall g gs d))
    (inv := fun ms x args d k => cX x fun g => cXs args fun gs => k (opInv ms g gs d))
    (dfr := fun x args d k => cX x fun g => cXs args fun gs => k (opDfr g gs d))
    (dfd := fun s m key d k => cX m fun m => cX key fun key => k (opDfd s m key d))
    (rcv := fun d k => k (opRcv d))
noncomputable def cCO : CO → (Op → D) → D :=
  @CO.rec (fun _ => (Op → D) → D) fun dst g b k => cDst dst fun d => cOB b d fun o => @Option.rec (Q × Bool) (fun _ => D) (k o) (fun qw => @Prod.rec Q Bool (fun _ => D) (fun q w => ac10 q fun g => k (opG g w o d)) qw) g
noncomputable def cPS : PS → (Op → D) → D :=
  @PS.rec (fun _ => (Op → D) → D) (fun o k => cCO o k)
    (fun g p q k => cP p fun p => ac10 q fun r => @Option.rec (Q × Bool) (fun _ => D) (k (opChk p r)) (fun qw => @Prod.rec Q Bool (fun _ => D) (fun q w => ac10 q fun g => k (opChkG g w (opChk p r))) qw) g)
noncomputable def cL : List PS → (Op → D) → D :=
  @List.rec PS (fun _ => (Op → D) → D) (fun k => k opI) (fun p _ ih k => cPS p fun o => ih fun r => k (opS o r))
noncomputable def cC : C → (Op → D) → D :=
  @C.rec (fun _ => (Op → D) → D)
    (skip := fun k => k opI)
    (reg := fun l k => cL l k)
    (seq := fun _ _ iha ihb k => iha fun a => ihb fun b => k (opS a b))
    (cond := fun x _ _ iha ihb k => cX x fun g => iha fun a => ihb fun b => k (opC g a b))
    (block := fun id _ ih k => ih fun o => k (opB id o))
    (loop := fun _ ih k => ih fun o => k (opL o))
    (rf := fun x params asg body _ _ k => cX x fun g => k (rfO g params asg body))
    (exit := fun id k => k (opE id))
    (scope := fun _ ih k => ih k)
    (ret := fun k => k opR)
    (bad := fun k => k opBad)
noncomputable def mkD (c : C) : D := cC c D.mk
noncomputable def runD : D → Op := @D.rec (fun _ => Op) fun o => o
noncomputable def resF : List RV → T V → T O → (List V → Res) → Res :=
  @List.rec RV (fun _ => T V → T O → (List V → Res) → Res) (fun _ _ k => k [])
    (fun r _ ih tm h k => @RV.rec (fun _ => (T V → T O → (List V → Res) → Res) → T V → T O → (List V → Res) → Res)
      (fun q ih tm h k => gvT q tm fun v => ih tm h fun l => k (v :: l))
      (fun agg n q ih tm h k => gvT q tm fun p => vP p fun o off => @Bool.rec (fun _ => Res) (ldF h o off fun v => ih tm h fun l' => k (v :: l')) (ldsF h o off n fun l => ih tm h fun l' => k (.agg l :: l')) agg) r ih tm h k)
noncomputable def oneF : List V → (V → Res) → Res :=
  @List.rec V (fun _ => (V → Res) → Res) (fun k => k (.tup [])) (fun v r _ k => @List.rec V (fun _ => V → (V → Res) → Res) (fun v k => k v) (fun u r _ v k => k (.tup (v :: u :: r))) r v k)
abbrev Kn := T O → Q → Res
noncomputable def collF (q : Q) (ih : Kn) (h : T O) (nx : Q) : Res := gO q h fun ob => (match ob with
  | .dfd false => pO (.dfd true) q h fun h' => ih h' nx
  | _ => .bad 97)
noncomputable def delF (s : KK) (m key : V) (ih : Kn) (h : T O) (nx : Q) : Res := keyCk s key (match m with
  | .map o => gO o h fun ob => mapO ob fun es => delK s h key es fun es' => pO (.mapd es') o h fun h' => ih h' nx
  | _ => .bad 97)
noncomputable def dfsF : List Df → Cl → List RV → Kr → T V → Kn :=
  @List.rec Df (fun _ => Cl → List RV → Kr → T V → Kn) (fun _ rs kret tm h nx => resF rs tm h fun vs => oneF vs fun v => kret v h nx)
    (fun d _ ih cl rs kret tm h nx => @Df.rec (fun _ => Cl → Kn → T O → Q → Res)
      (fun g args cl ih h nx => cl (.fn g [] []) args true h nx fun _ h' nx' => ih h' nx')
      (fun q _ ih h nx => collF q ih h nx)
      (fun s m key _ ih h nx => delF s m key ih h nx) d cl (ih cl rs kret tm) h nx)
noncomputable def rtnF (cl : Cl) (rs : List RV) (kret : Kr) : St := fun tm s => @S.rec (fun _ => Cl → List RV → Kr → T V → Res) (fun h nx ds cl rs kret tm => dfsF ds cl rs kret tm h nx) s cl rs kret tm
noncomputable def argsF : List V → Nat → T V → (T V → Res) → Res :=
  @List.rec V (fun _ => Nat → T V → (T V → Res) → Res) (fun _ t k => k t) (fun v _ ih i t k => dvT (qn i) v t fun t' => ih (Nat.succ i) t' k)
noncomputable def enter1 (o : Op) (cl : Cl) (f : Q) (tm : T V) (h : T O) (nx : Q) (kr : St) : Res := o ⟨cl, f, none, [], kr, krBad⟩ kr tm ⟨h, nx, []⟩
noncomputable def cfF : CF → Cl → Q → List V → Bool → T O → Q → Kr → Res :=
  @CF.rec (fun _ => Cl → Q → List V → Bool → T O → Q → Kr → Res) (fun _ _ _ _ _ _ _ => .bad 83)
    (fun body rs cl f args _ h nx kret => argsF args (nat_lit 0) .nil fun tm => enter1 (runD (mkD body)) cl f tm h nx (rtnF cl rs kret))
    (fun n _ _ args dk h nx kret => @Bool.rec (fun _ => Res) (extK n args fun v => kret v h nx) (.bad 78) dk)
noncomputable def parF : List Q → List V → T V → (T V → Res) → Res :=
  @List.rec Q (fun _ => List V → T V → (T V → Res) → Res) (fun vs t k => @List.rec V (fun _ => T V → (T V → Res) → Res) (fun t k => k t) (fun _ _ _ _ _ => .bad 82) vs t k)
    (fun q _ ih vs t k => @List.rec V (fun _ => Q → (List V → T V → (T V → Res) → Res) → T V → (T V → Res) → Res) (fun _ _ _ _ => .bad 82) (fun v vs _ q ih t k => dvT q v t fun t' => ih vs t' k) vs q ih t k)
noncomputable def bodyF (cl : Cl) (l fn : Q) (body : C) (kret : Kr) : St := fun tm s => @S.rec (fun _ => Res) (fun h nx ds => goT l h fun ob => loopF ob fun st pend fn' tm' params asg body' dfs => gdF (Nat.beq st (nat_lit 0)) 104 (doT l (.loop (.mk (nat_lit 1) pend fn' tm' params asg body' dfs)) h fun h' =>
  runD (mkD body) ⟨cl, fn, some l, [], stBad, kret⟩ (fun _ s => endF l .none (nat_lit 0) true kret s) tm ⟨h', nx, ds⟩)) s
noncomputable def roundF (cl : Cl) (l : Q) (args : List V) (h : T O) (nx : Q) (kret : Kr) : Res :=
  goT l h fun ob => loopF ob fun _ _ fn tm params asg body _ => parF params args tm fun tm' =>
    runD (mkD asg) ⟨cl, fn, some l, [], stBad, kret⟩ (bodyF cl l fn body kret) tm' ⟨h, nx, []⟩
noncomputable def clF' (fe : Q → CF) (cl : Cl) : Cl := fun fv args dk h nx kret =>
  vFn fv (fun f fs caps => app3 fs args caps fun l => cfF (fe f) cl f l dk h nx kret)
    (fun l => @Bool.rec (fun _ => Cl → Q → List V → T O → Q → Kr → Res) roundF (fun _ _ _ _ _ _ => .bad 202) dk cl l args h nx kret)
noncomputable def callF (fe : Q → CF) (n : Nat) : Cl := @Nat.rec (fun _ => Cl) (fun _ _ _ _ _ _ => .bad 203) (fun _ cl => clF' fe cl) n
noncomputable def runF (fe : Q → CF) (n : Nat) (f : Q) (nx : Q) : Res := callF fe n (.fn f [] []) [] false .nil nx fun v _ _ => .ok v
end Go.CM
end
