import Derived.Test.YtdkkaldimefljaaGreatDoorC01
set_option linter.all false
noncomputable section
namespace Go.CM
def ev1:N5 V (TQ V)→(V→Res)→Res:=@N5.rec V (TQ V) (fun _=>(V→Res)→Res) (fun v _ _ _ _ k=>k v)
def aOr (g:TQ V→(V→Res)→Res) (t:N5 V (TQ V)) (k:V→Res):Res:=@N5.rec V (TQ V) (fun _=>(TQ V→(V→Res)→Res)→(V→Res)→Res) (fun _ a _ _ _ g k=>g a k) t g k
def aLP (g:TQ V→(V→Res)→Res) (t:N5 V (TQ V)) (k:V→Res):Res:=@N5.rec V (TQ V) (fun _=>(TQ V→(V→Res)→Res)→(V→Res)→Res) (fun _ _ b _ _ g k=>g b k) t g k
def aLw (g:TQ V→(V→Res)→Res) (t:N5 V (TQ V)) (k:V→Res):Res:=@N5.rec V (TQ V) (fun _=>(TQ V→(V→Res)→Res)→(V→Res)→Res) (fun _ _ _ c _ g k=>g c k) t g k
def aMU (g:TQ V→(V→Res)→Res) (t:N5 V (TQ V)) (k:V→Res):Res:=@N5.rec V (TQ V) (fun _=>(TQ V→(V→Res)→Res)→(V→Res)→Res) (fun _ _ _ _ d g k=>g d k) t g k
def gv0 (q:QR) (t:TQ V) (k:V→Res):Res:=k (t.get Dft.z q)
def gv1:QN QR→N5 V (TQ V)→(V→Res)→Res:=@QN.rec QR (fun _=>N5 V (TQ V)→(V→Res)→Res) ev1 (fun q=>aOr (gv0 q)) (fun q=>aLP (gv0 q)) (fun q=>aLw (gv0 q)) (fun q=>aMU (gv0 q))
abbrev Pv1:=V→N5 V (TQ V)→(N5 V (TQ V)→Res)→Res
def nv1 (v:V) (t:N5 V (TQ V)) (k:N5 V (TQ V)→Res):Res:=@N5.rec V (TQ V) (fun _=>V→(N5 V (TQ V)→Res)→Res) (fun _ a b c d v k=>k (.mk v a b c d)) t v k
abbrev Pv0:=V→TQ V→(TQ V→Res)→Res
def dv0 (q:QR) (v:V) (t:TQ V) (k:TQ V→Res):Res:=k (t.put Dft.z v q)
def aLA (p:Pv0) (v:V) (t:N5 V (TQ V)) (k:N5 V (TQ V)→Res):Res:=@N5.rec V (TQ V) (fun _=>Pv0→V→(N5 V (TQ V)→Res)→Res) (fun u a b c d p v k=>p v a fun x=>k (.mk u x b c d)) t p v k
def aLe (p:Pv0) (v:V) (t:N5 V (TQ V)) (k:N5 V (TQ V)→Res):Res:=@N5.rec V (TQ V) (fun _=>Pv0→V→(N5 V (TQ V)→Res)→Res) (fun u a b c d p v k=>p v b fun x=>k (.mk u a x c d)) t p v k
def aNB (p:Pv0) (v:V) (t:N5 V (TQ V)) (k:N5 V (TQ V)→Res):Res:=@N5.rec V (TQ V) (fun _=>Pv0→V→(N5 V (TQ V)→Res)→Res) (fun u a b c d p v k=>p v c fun x=>k (.mk u a b x d)) t p v k
def aNV (p:Pv0) (v:V) (t:N5 V (TQ V)) (k:N5 V (TQ V)→Res):Res:=@N5.rec V (TQ V) (fun _=>Pv0→V→(N5 V (TQ V)→Res)→Res) (fun u a b c d p v k=>p v d fun x=>k (.mk u a b c x)) t p v k
def dv1:QN QR→Pv1:=@QN.rec QR (fun _=>Pv1) nv1 (fun q=>aLA (dv0 q)) (fun q=>aLe (dv0 q)) (fun q=>aNB (dv0 q)) (fun q=>aNV (dv0 q))
def ev2:N5 V (T1 V)→(V→Res)→Res:=@N5.rec V (T1 V) (fun _=>(V→Res)→Res) (fun v _ _ _ _ k=>k v)
def aLJ (g:T1 V→(V→Res)→Res) (t:N5 V (T1 V)) (k:V→Res):Res:=@N5.rec V (T1 V) (fun _=>(T1 V→(V→Res)→Res)→(V→Res)→Res) (fun _ a _ _ _ g k=>g a k) t g k
def aN7 (g:T1 V→(V→Res)→Res) (t:N5 V (T1 V)) (k:V→Res):Res:=@N5.rec V (T1 V) (fun _=>(T1 V→(V→Res)→Res)→(V→Res)→Res) (fun _ _ b _ _ g k=>g b k) t g k
def aOw (g:T1 V→(V→Res)→Res) (t:N5 V (T1 V)) (k:V→Res):Res:=@N5.rec V (T1 V) (fun _=>(T1 V→(V→Res)→Res)→(V→Res)→Res) (fun _ _ _ c _ g k=>g c k) t g k
def aOi (g:T1 V→(V→Res)→Res) (t:N5 V (T1 V)) (k:V→Res):Res:=@N5.rec V (T1 V) (fun _=>(T1 V→(V→Res)→Res)→(V→Res)→Res) (fun _ _ _ _ d g k=>g d k) t g k
def gv2:QN Q1→N5 V (T1 V)→(V→Res)→Res:=@QN.rec Q1 (fun _=>N5 V (T1 V)→(V→Res)→Res) ev2 (fun q=>aLJ (gv1 q)) (fun q=>aN7 (gv1 q)) (fun q=>aOw (gv1 q)) (fun q=>aOi (gv1 q))
abbrev Pv2:=V→N5 V (T1 V)→(N5 V (T1 V)→Res)→Res
def nv2 (v:V) (t:N5 V (T1 V)) (k:N5 V (T1 V)→Res):Res:=@N5.rec V (T1 V) (fun _=>V→(N5 V (T1 V)→Res)→Res) (fun _ a b c d v k=>k (.mk v a b c d)) t v k
def aKl (p:Pv1) (v:V) (t:N5 V (T1 V)) (k:N5 V (T1 V)→Res):Res:=@N5.rec V (T1 V) (fun _=>Pv1→V→(N5 V (T1 V)→Res)→Res) (fun u a b c d p v k=>p v a fun x=>k (.mk u x b c d)) t p v k
def aND (p:Pv1) (v:V) (t:N5 V (T1 V)) (k:N5 V (T1 V)→Res):Res:=@N5.rec V (T1 V) (fun _=>Pv1→V→(N5 V (T1 V)→Res)→Res) (fun u a b c d p v k=>p v b fun x=>k (.mk u a x c d)) t p v k
def aNm (p:Pv1) (v:V) (t:N5 V (T1 V)) (k:N5 V (T1 V)→Res):Res:=@N5.rec V (T1 V) (fun _=>Pv1→V→(N5 V (T1 V)→Res)→Res) (fun u a b c d p v k=>p v c fun x=>k (.mk u a b x d)) t p v k
def aOE (p:Pv1) (v:V) (t:N5 V (T1 V)) (k:N5 V (T1 V)→Res):Res:=@N5.rec V (T1 V) (fun _=>Pv1→V→(N5 V (T1 V)→Res)→Res) (fun u a b c d p v k=>p v d fun x=>k (.mk u a b c x)) t p v k
def dv2:QN Q1→Pv2:=@QN.rec Q1 (fun _=>Pv2) nv2 (fun q=>aKl (dv1 q)) (fun q=>aND (dv1 q)) (fun q=>aNm (dv1 q)) (fun q=>aOE (dv1 q))
def ev3:N5 V (T2 V)→(V→Res)→Res:=@N5.rec V (T2 V) (fun _=>(V→Res)→Res) (fun v _ _ _ _ k=>k v)
def aMq (g:T2 V→(V→Res)→Res) (t:N5 V (T2 V)) (k:V→Res):Res:=@N5.rec V (T2 V) (fun _=>(T2 V→(V→Res)→Res)→(V→Res)→Res) (fun _ a _ _ _ g k=>g a k) t g k
def aLR (g:T2 V→(V→Res)→Res) (t:N5 V (T2 V)) (k:V→Res):Res:=@N5.rec V (T2 V) (fun _=>(T2 V→(V→Res)→Res)→(V→Res)→Res) (fun _ _ b _ _ g k=>g b k) t g k
def aL9 (g:T2 V→(V→Res)→Res) (t:N5 V (T2 V)) (k:V→Res):Res:=@N5.rec V (T2 V) (fun _=>(T2 V→(V→Res)→Res)→(V→Res)→Res) (fun _ _ _ c _ g k=>g c k) t g k
def aMC (g:T2 V→(V→Res)→Res) (t:N5 V (T2 V)) (k:V→Res):Res:=@N5.rec V (T2 V) (fun _=>(T2 V→(V→Res)→Res)→(V→Res)→Res) (fun _ _ _ _ d g k=>g d k) t g k
def gv3:QN Q2→N5 V (T2 V)→(V→Res)→Res:=@QN.rec Q2 (fun _=>N5 V (T2 V)→(V→Res)→Res) ev3 (fun q=>aMq (gv2 q)) (fun q=>aLR (gv2 q)) (fun q=>aL9 (gv2 q)) (fun q=>aMC (gv2 q))
abbrev Pv3:=V→N5 V (T2 V)→(N5 V (T2 V)→Res)→Res
def nv3 (v:V) (t:N5 V (T2 V)) (k:N5 V (T2 V)→Res):Res:=@N5.rec V (T2 V) (fun _=>V→(N5 V (T2 V)→Res)→Res) (fun _ a b c d v k=>k (.mk v a b c d)) t v k
def aKR (p:Pv2) (v:V) (t:N5 V (T2 V)) (k:N5 V (T2 V)→Res):Res:=@N5.rec V (T2 V) (fun _=>Pv2→V→(N5 V (T2 V)→Res)→Res) (fun u a b c d p v k=>p v a fun x=>k (.mk u x b c d)) t p v k
def aLL (p:Pv2) (v:V) (t:N5 V (T2 V)) (k:N5 V (T2 V)→Res):Res:=@N5.rec V (T2 V) (fun _=>Pv2→V→(N5 V (T2 V)→Res)→Res) (fun u a b c d p v k=>p v b fun x=>k (.mk u a x c d)) t p v k
def aLZ (p:Pv2) (v:V) (t:N5 V (T2 V)) (k:N5 V (T2 V)→Res):Res:=@N5.rec V (T2 V) (fun _=>Pv2→V→(N5 V (T2 V)→Res)→Res) (fun u a b c d p v k=>p v c fun x=>k (.mk u a b x d)) t p v k
def aOC (p:Pv2) (v:V) (t:N5 V (T2 V)) (k:N5 V (T2 V)→Res):Res:=@N5.rec V (T2 V) (fun _=>Pv2→V→(N5 V (T2 V)→Res)→Res) (fun u a b c d p v k=>p v d fun x=>k (.mk u a b c x)) t p v k
def dv3:QN Q2→Pv3:=@QN.rec Q2 (fun _=>Pv3) nv3 (fun q=>aKR (dv2 q)) (fun q=>aLL (dv2 q)) (fun q=>aLZ (dv2 q)) (fun q=>aOC (dv2 q))
def ev4:N5 V (T3 V)→(V→Res)→Res:=@N5.rec V (T3 V) (fun _=>(V→Res)→Res) (fun v _ _ _ _ k=>k v)
def aLC (g:T3 V→(V→Res)→Res) (t:N5 V (T3 V)) (k:V→Res):Res:=@N5.rec V (T3 V) (fun _=>(T3 V→(V→Res)→Res)→(V→Res)→Res) (fun _ a _ _ _ g k=>g a k) t g k
def aKy (g:T3 V→(V→Res)→Res) (t:N5 V (T3 V)) (k:V→Res):Res:=@N5.rec V (T3 V) (fun _=>(T3 V→(V→Res)→Res)→(V→Res)→Res) (fun _ _ b _ _ g k=>g b k) t g k
def aKO (g:T3 V→(V→Res)→Res) (t:N5 V (T3 V)) (k:V→Res):Res:=@N5.rec V (T3 V) (fun _=>(T3 V→(V→Res)→Res)→(V→Res)→Res) (fun _ _ _ c _ g k=>g c k) t g k
def aKM (g:T3 V→(V→Res)→Res) (t:N5 V (T3 V)) (k:V→Res):Res:=@N5.rec V (T3 V) (fun _=>(T3 V→(V→Res)→Res)→(V→Res)→Res) (fun _ _ _ _ d g k=>g d k) t g k
def gv4:QN Q3→N5 V (T3 V)→(V→Res)→Res:=@QN.rec Q3 (fun _=>N5 V (T3 V)→(V→Res)→Res) ev4 (fun q=>aLC (gv3 q)) (fun q=>aKy (gv3 q)) (fun q=>aKO (gv3 q)) (fun q=>aKM (gv3 q))
abbrev Pv4:=V→N5 V (T3 V)→(N5 V (T3 V)→Res)→Res
def nv4 (v:V) (t:N5 V (T3 V)) (k:N5 V (T3 V)→Res):Res:=@N5.rec V (T3 V) (fun _=>V→(N5 V (T3 V)→Res)→Res) (fun _ a b c d v k=>k (.mk v a b c d)) t v k
def aNZ (p:Pv3) (v:V) (t:N5 V (T3 V)) (k:N5 V (T3 V)→Res):Res:=@N5.rec V (T3 V) (fun _=>Pv3→V→(N5 V (T3 V)→Res)→Res) (fun u a b c d p v k=>p v a fun x=>k (.mk u x b c d)) t p v k
def aKm (p:Pv3) (v:V) (t:N5 V (T3 V)) (k:N5 V (T3 V)→Res):Res:=@N5.rec V (T3 V) (fun _=>Pv3→V→(N5 V (T3 V)→Res)→Res) (fun u a b c d p v k=>p v b fun x=>k (.mk u a x c d)) t p v k
def aM7 (p:Pv3) (v:V) (t:N5 V (T3 V)) (k:N5 V (T3 V)→Res):Res:=@N5.rec V (T3 V) (fun _=>Pv3→V→(N5 V (T3 V)→Res)→Res) (fun u a b c d p v k=>p v c fun x=>k (.mk u a b x d)) t p v k
def aK8 (p:Pv3) (v:V) (t:N5 V (T3 V)) (k:N5 V (T3 V)→Res):Res:=@N5.rec V (T3 V) (fun _=>Pv3→V→(N5 V (T3 V)→Res)→Res) (fun u a b c d p v k=>p v d fun x=>k (.mk u a b c x)) t p v k
def dv4:QN Q3→Pv4:=@QN.rec Q3 (fun _=>Pv4) nv4 (fun q=>aNZ (dv3 q)) (fun q=>aKm (dv3 q)) (fun q=>aM7 (dv3 q)) (fun q=>aK8 (dv3 q))
def ev5:N5 V (T4 V)→(V→Res)→Res:=@N5.rec V (T4 V) (fun _=>(V→Res)→Res) (fun v _ _ _ _ k=>k v)
def aKN (g:T4 V→(V→Res)→Res) (t:N5 V (T4 V)) (k:V→Res):Res:=@N5.rec V (T4 V) (fun _=>(T4 V→(V→Res)→Res)→(V→Res)→Res) (fun _ a _ _ _ g k=>g a k) t g k
def aKZ (g:T4 V→(V→Res)→Res) (t:N5 V (T4 V)) (k:V→Res):Res:=@N5.rec V (T4 V) (fun _=>(T4 V→(V→Res)→Res)→(V→Res)→Res) (fun _ _ b _ _ g k=>g b k) t g k
def aLG (g:T4 V→(V→Res)→Res) (t:N5 V (T4 V)) (k:V→Res):Res:=@N5.rec V (T4 V) (fun _=>(T4 V→(V→Res)→Res)→(V→Res)→Res) (fun _ _ _ c _ g k=>g c k) t g k
def aNO (g:T4 V→(V→Res)→Res) (t:N5 V (T4 V)) (k:V→Res):Res:=@N5.rec V (T4 V) (fun _=>(T4 V→(V→Res)→Res)→(V→Res)→Res) (fun _ _ _ _ d g k=>g d k) t g k
def gv5:QN Q4→N5 V (T4 V)→(V→Res)→Res:=@QN.rec Q4 (fun _=>N5 V (T4 V)→(V→Res)→Res) ev5 (fun q=>aKN (gv4 q)) (fun q=>aKZ (gv4 q)) (fun q=>aLG (gv4 q)) (fun q=>aNO (gv4 q))
abbrev Pv5:=V→N5 V (T4 V)→(N5 V (T4 V)→Res)→Res
def nv5 (v:V) (t:N5 V (T4 V)) (k:N5 V (T4 V)→Res):Res:=@N5.rec V (T4 V) (fun _=>V→(N5 V (T4 V)→Res)→Res) (fun _ a b c d v k=>k (.mk v a b c d)) t v k
def aNy (p:Pv4) (v:V) (t:N5 V (T4 V)) (k:N5 V (T4 V)→Res):Res:=@N5.rec V (T4 V) (fun _=>Pv4→V→(N5 V (T4 V)→Res)→Res) (fun u a b c d p v k=>p v a fun x=>k (.mk u x b c d)) t p v k
def aLq (p:Pv4) (v:V) (t:N5 V (T4 V)) (k:N5 V (T4 V)→Res):Res:=@N5.rec V (T4 V) (fun _=>Pv4→V→(N5 V (T4 V)→Res)→Res) (fun u a b c d p v k=>p v b fun x=>k (.mk u a x c d)) t p v k
def aOM (p:Pv4) (v:V) (t:N5 V (T4 V)) (k:N5 V (T4 V)→Res):Res:=@N5.rec V (T4 V) (fun _=>Pv4→V→(N5 V (T4 V)→Res)→Res) (fun u a b c d p v k=>p v c fun x=>k (.mk u a b x d)) t p v k
def aOt (p:Pv4) (v:V) (t:N5 V (T4 V)) (k:N5 V (T4 V)→Res):Res:=@N5.rec V (T4 V) (fun _=>Pv4→V→(N5 V (T4 V)→Res)→Res) (fun u a b c d p v k=>p v d fun x=>k (.mk u a b c x)) t p v k
def dv5:QN Q4→Pv5:=@QN.rec Q4 (fun _=>Pv5) nv5 (fun q=>aNy (dv4 q)) (fun q=>aLq (dv4 q)) (fun q=>aOM (dv4 q)) (fun q=>aOt (dv4 q))
def ev6:N5 V (T5 V)→(V→Res)→Res:=@N5.rec V (T5 V) (fun _=>(V→Res)→Res) (fun v _ _ _ _ k=>k v)
def aOc (g:T5 V→(V→Res)→Res) (t:N5 V (T5 V)) (k:V→Res):Res:=@N5.rec V (T5 V) (fun _=>(T5 V→(V→Res)→Res)→(V→Res)→Res) (fun _ a _ _ _ g k=>g a k) t g k
def aMG (g:T5 V→(V→Res)→Res) (t:N5 V (T5 V)) (k:V→Res):Res:=@N5.rec V (T5 V) (fun _=>(T5 V→(V→Res)→Res)→(V→Res)→Res) (fun _ _ b _ _ g k=>g b k) t g k
def aNH (g:T5 V→(V→Res)→Res) (t:N5 V (T5 V)) (k:V→Res):Res:=@N5.rec V (T5 V) (fun _=>(T5 V→(V→Res)→Res)→(V→Res)→Res) (fun _ _ _ c _ g k=>g c k) t g k
def aM8 (g:T5 V→(V→Res)→Res) (t:N5 V (T5 V)) (k:V→Res):Res:=@N5.rec V (T5 V) (fun _=>(T5 V→(V→Res)→Res)→(V→Res)→Res) (fun _ _ _ _ d g k=>g d k) t g k
def gv6:QN Q5→N5 V (T5 V)→(V→Res)→Res:=@QN.rec Q5 (fun _=>N5 V (T5 V)→(V→Res)→Res) ev6 (fun q=>aOc (gv5 q)) (fun q=>aMG (gv5 q)) (fun q=>aNH (gv5 q)) (fun q=>aM8 (gv5 q))
abbrev Pv6:=V→N5 V (T5 V)→(N5 V (T5 V)→Res)→Res
def nv6 (v:V) (t:N5 V (T5 V)) (k:N5 V (T5 V)→Res):Res:=@N5.rec V (T5 V) (fun _=>V→(N5 V (T5 V)→Res)→Res) (fun _ a b c d v k=>k (.mk v a b c d)) t v k
def aLj (p:Pv5) (v:V) (t:N5 V (T5 V)) (k:N5 V (T5 V)→Res):Res:=@N5.rec V (T5 V) (fun _=>Pv5→V→(N5 V (T5 V)→Res)→Res) (fun u a b c d p v k=>p v a fun x=>k (.mk u x b c d)) t p v k
def aLk (p:Pv5) (v:V) (t:N5 V (T5 V)) (k:N5 V (T5 V)→Res):Res:=@N5.rec V (T5 V) (fun _=>Pv5→V→(N5 V (T5 V)→Res)→Res) (fun u a b c d p v k=>p v b fun x=>k (.mk u a x c d)) t p v k
def aLV (p:Pv5) (v:V) (t:N5 V (T5 V)) (k:N5 V (T5 V)→Res):Res:=@N5.rec V (T5 V) (fun _=>Pv5→V→(N5 V (T5 V)→Res)→Res) (fun u a b c d p v k=>p v c fun x=>k (.mk u a b x d)) t p v k
def aN4 (p:Pv5) (v:V) (t:N5 V (T5 V)) (k:N5 V (T5 V)→Res):Res:=@N5.rec V (T5 V) (fun _=>Pv5→V→(N5 V (T5 V)→Res)→Res) (fun u a b c d p v k=>p v d fun x=>k (.mk u a b c x)) t p v k
def dv6:QN Q5→Pv6:=@QN.rec Q5 (fun _=>Pv6) nv6 (fun q=>aLj (dv5 q)) (fun q=>aLk (dv5 q)) (fun q=>aLV (dv5 q)) (fun q=>aN4 (dv5 q))
def ev7:N5 V (T6 V)→(V→Res)→Res:=@N5.rec V (T6 V) (fun _=>(V→Res)→Res) (fun v _ _ _ _ k=>k v)
def aEM (g:T6 V→(V→Res)→Res) (t:N5 V (T6 V)) (k:V→Res):Res:=@N5.rec V (T6 V) (fun _=>(T6 V→(V→Res)→Res)→(V→Res)→Res) (fun _ a _ _ _ g k=>g a k) t g k
def aE3 (g:T6 V→(V→Res)→Res) (t:N5 V (T6 V)) (k:V→Res):Res:=@N5.rec V (T6 V) (fun _=>(T6 V→(V→Res)→Res)→(V→Res)→Res) (fun _ _ b _ _ g k=>g b k) t g k
def aES (g:T6 V→(V→Res)→Res) (t:N5 V (T6 V)) (k:V→Res):Res:=@N5.rec V (T6 V) (fun _=>(T6 V→(V→Res)→Res)→(V→Res)→Res) (fun _ _ _ c _ g k=>g c k) t g k
def aEY (g:T6 V→(V→Res)→Res) (t:N5 V (T6 V)) (k:V→Res):Res:=@N5.rec V (T6 V) (fun _=>(T6 V→(V→Res)→Res)→(V→Res)→Res) (fun _ _ _ _ d g k=>g d k) t g k
def gv7:QN Q6→N5 V (T6 V)→(V→Res)→Res:=@QN.rec Q6 (fun _=>N5 V (T6 V)→(V→Res)→Res) ev7 (fun q=>aEM (gv6 q)) (fun q=>aE3 (gv6 q)) (fun q=>aES (gv6 q)) (fun q=>aEY (gv6 q))
abbrev Pv7:=V→N5 V (T6 V)→(N5 V (T6 V)→Res)→Res
def nv7 (v:V) (t:N5 V (T6 V)) (k:N5 V (T6 V)→Res):Res:=@N5.rec V (T6 V) (fun _=>V→(N5 V (T6 V)→Res)→Res) (fun _ a b c d v k=>k (.mk v a b c d)) t v k
def aDb (p:Pv6) (v:V) (t:N5 V (T6 V)) (k:N5 V (T6 V)→Res):Res:=@N5.rec V (T6 V) (fun _=>Pv6→V→(N5 V (T6 V)→Res)→Res) (fun u a b c d p v k=>p v a fun x=>k (.mk u x b c d)) t p v k
def aDd (p:Pv6) (v:V) (t:N5 V (T6 V)) (k:N5 V (T6 V)→Res):Res:=@N5.rec V (T6 V) (fun _=>Pv6→V→(N5 V (T6 V)→Res)→Res) (fun u a b c d p v k=>p v b fun x=>k (.mk u a x c d)) t p v k
def aCZ (p:Pv6) (v:V) (t:N5 V (T6 V)) (k:N5 V (T6 V)→Res):Res:=@N5.rec V (T6 V) (fun _=>Pv6→V→(N5 V (T6 V)→Res)→Res) (fun u a b c d p v k=>p v c fun x=>k (.mk u a b x d)) t p v k
def aDw (p:Pv6) (v:V) (t:N5 V (T6 V)) (k:N5 V (T6 V)→Res):Res:=@N5.rec V (T6 V) (fun _=>Pv6→V→(N5 V (T6 V)→Res)→Res) (fun u a b c d p v k=>p v d fun x=>k (.mk u a b c x)) t p v k
def dv7:QN Q6→Pv7:=@QN.rec Q6 (fun _=>Pv7) nv7 (fun q=>aDb (dv6 q)) (fun q=>aDd (dv6 q)) (fun q=>aCZ (dv6 q)) (fun q=>aDw (dv6 q))
def ev8:N5 V (T7 V)→(V→Res)→Res:=@N5.rec V (T7 V) (fun _=>(V→Res)→Res) (fun v _ _ _ _ k=>k v)
def aE5 (g:T7 V→(V→Res)→Res) (t:N5 V (T7 V)) (k:V→Res):Res:=@N5.rec V (T7 V) (fun _=>(T7 V→(V→Res)→Res)→(V→Res)→Res) (fun _ a _ _ _ g k=>g a k) t g k
def aC5 (g:T7 V→(V→Res)→Res) (t:N5 V (T7 V)) (k:V→Res):Res:=@N5.rec V (T7 V) (fun _=>(T7 V→(V→Res)→Res)→(V→Res)→Res) (fun _ _ b _ _ g k=>g b k) t g k
def aDk (g:T7 V→(V→Res)→Res) (t:N5 V (T7 V)) (k:V→Res):Res:=@N5.rec V (T7 V) (fun _=>(T7 V→(V→Res)→Res)→(V→Res)→Res) (fun _ _ _ c _ g k=>g c k) t g k
def aDP (g:T7 V→(V→Res)→Res) (t:N5 V (T7 V)) (k:V→Res):Res:=@N5.rec V (T7 V) (fun _=>(T7 V→(V→Res)→Res)→(V→Res)→Res) (fun _ _ _ _ d g k=>g d k) t g k
def gv8:QN Q7→N5 V (T7 V)→(V→Res)→Res:=@QN.rec Q7 (fun _=>N5 V (T7 V)→(V→Res)→Res) ev8 (fun q=>aE5 (gv7 q)) (fun q=>aC5 (gv7 q)) (fun q=>aDk (gv7 q)) (fun q=>aDP (gv7 q))
abbrev Pv8:=V→N5 V (T7 V)→(N5 V (T7 V)→Res)→Res
def nv8 (v:V) (t:N5 V (T7 V)) (k:N5 V (T7 V)→Res):Res:=@N5.rec V (T7 V) (fun _=>V→(N5 V (T7 V)→Res)→Res) (fun _ a b c d v k=>k (.mk v a b c d)) t v k
def aEU (p:Pv7) (v:V) (t:N5 V (T7 V)) (k:N5 V (T7 V)→Res):Res:=@N5.rec V (T7 V) (fun _=>Pv7→V→(N5 V (T7 V)→Res)→Res) (fun u a b c d p v k=>p v a fun x=>k (.mk u x b c d)) t p v k
def aDX (p:Pv7) (v:V) (t:N5 V (T7 V)) (k:N5 V (T7 V)→Res):Res:=@N5.rec V (T7 V) (fun _=>Pv7→V→(N5 V (T7 V)→Res)→Res) (fun u a b c d p v k=>p v b fun x=>k (.mk u a x c d)) t p v k
def aDO (p:Pv7) (v:V) (t:N5 V (T7 V)) (k:N5 V (T7 V)→Res):Res:=@N5.rec V (T7 V) (fun _=>Pv7→V→(N5 V (T7 V)→Res)→Res) (fun u a b c d p v k=>p v c fun x=>k (.mk u a b x d)) t p v k
def aDj (p:Pv7) (v:V) (t:N5 V (T7 V)) (k:N5 V (T7 V)→Res):Res:=@N5.rec V (T7 V) (fun _=>Pv7→V→(N5 V (T7 V)→Res)→Res) (fun u a b c d p v k=>p v d fun x=>k (.mk u a b c x)) t p v k
def dv8:QN Q7→Pv8:=@QN.rec Q7 (fun _=>Pv8) nv8 (fun q=>aEU (dv7 q)) (fun q=>aDX (dv7 q)) (fun q=>aDO (dv7 q)) (fun q=>aDj (dv7 q))
def ev9:N5 V (T8 V)→(V→Res)→Res:=@N5.rec V (T8 V) (fun _=>(V→Res)→Res) (fun v _ _ _ _ k=>k v)
def aEn (g:T8 V→(V→Res)→Res) (t:N5 V (T8 V)) (k:V→Res):Res:=@N5.rec V (T8 V) (fun _=>(T8 V→(V→Res)→Res)→(V→Res)→Res) (fun _ a _ _ _ g k=>g a k) t g k
def aDu (g:T8 V→(V→Res)→Res) (t:N5 V (T8 V)) (k:V→Res):Res:=@N5.rec V (T8 V) (fun _=>(T8 V→(V→Res)→Res)→(V→Res)→Res) (fun _ _ b _ _ g k=>g b k) t g k
def aEj (g:T8 V→(V→Res)→Res) (t:N5 V (T8 V)) (k:V→Res):Res:=@N5.rec V (T8 V) (fun _=>(T8 V→(V→Res)→Res)→(V→Res)→Res) (fun _ _ _ c _ g k=>g c k) t g k
def aDF (g:T8 V→(V→Res)→Res) (t:N5 V (T8 V)) (k:V→Res):Res:=@N5.rec V (T8 V) (fun _=>(T8 V→(V→Res)→Res)→(V→Res)→Res) (fun _ _ _ _ d g k=>g d k) t g k
def gv9:QN Q8→N5 V (T8 V)→(V→Res)→Res:=@QN.rec Q8 (fun _=>N5 V (T8 V)→(V→Res)→Res) ev9 (fun q=>aEn (gv8 q)) (fun q=>aDu (gv8 q)) (fun q=>aEj (gv8 q)) (fun q=>aDF (gv8 q))
abbrev Pv9:=V→N5 V (T8 V)→(N5 V (T8 V)→Res)→Res
def nv9 (v:V) (t:N5 V (T8 V)) (k:N5 V (T8 V)→Res):Res:=@N5.rec V (T8 V) (fun _=>V→(N5 V (T8 V)→Res)→Res) (fun _ a b c d v k=>k (.mk v a b c d)) t v k
def aDC (p:Pv8) (v:V) (t:N5 V (T8 V)) (k:N5 V (T8 V)→Res):Res:=@N5.rec V (T8 V) (fun _=>Pv8→V→(N5 V (T8 V)→Res)→Res) (fun u a b c d p v k=>p v a fun x=>k (.mk u x b c d)) t p v k
def aEQ (p:Pv8) (v:V) (t:N5 V (T8 V)) (k:N5 V (T8 V)→Res):Res:=@N5.rec V (T8 V) (fun _=>Pv8→V→(N5 V (T8 V)→Res)→Res) (fun u a b c d p v k=>p v b fun x=>k (.mk u a x c d)) t p v k
def aE0 (p:Pv8) (v:V) (t:N5 V (T8 V)) (k:N5 V (T8 V)→Res):Res:=@N5.rec V (T8 V) (fun _=>Pv8→V→(N5 V (T8 V)→Res)→Res) (fun u a b c d p v k=>p v c fun x=>k (.mk u a b x d)) t p v k
def aEw (p:Pv8) (v:V) (t:N5 V (T8 V)) (k:N5 V (T8 V)→Res):Res:=@N5.rec V (T8 V) (fun _=>Pv8→V→(N5 V (T8 V)→Res)→Res) (fun u a b c d p v k=>p v d fun x=>k (.mk u a b c x)) t p v k
def dv9:QN Q8→Pv9:=@QN.rec Q8 (fun _=>Pv9) nv9 (fun q=>aDC (dv8 q)) (fun q=>aEQ (dv8 q)) (fun q=>aE0 (dv8 q)) (fun q=>aEw (dv8 q))
def aHP:N5 V (T9 V)→(V→Res)→Res:=@N5.rec V (T9 V) (fun _=>(V→Res)→Res) (fun v _ _ _ _ k=>k v)
def wx (g:T9 V→(V→Res)→Res) (t:N5 V (T9 V)) (k:V→Res):Res:=@N5.rec V (T9 V) (fun _=>(T9 V→(V→Res)→Res)→(V→Res)→Res) (fun _ a _ _ _ g k=>g a k) t g k
def ur (g:T9 V→(V→Res)→Res) (t:N5 V (T9 V)) (k:V→Res):Res:=@N5.rec V (T9 V) (fun _=>(T9 V→(V→Res)→Res)→(V→Res)→Res) (fun _ _ b _ _ g k=>g b k) t g k
def re (g:T9 V→(V→Res)→Res) (t:N5 V (T9 V)) (k:V→Res):Res:=@N5.rec V (T9 V) (fun _=>(T9 V→(V→Res)→Res)→(V→Res)→Res) (fun _ _ _ c _ g k=>g c k) t g k
def wu (g:T9 V→(V→Res)→Res) (t:N5 V (T9 V)) (k:V→Res):Res:=@N5.rec V (T9 V) (fun _=>(T9 V→(V→Res)→Res)→(V→Res)→Res) (fun _ _ _ _ d g k=>g d k) t g k
def aIW:QN Q9→N5 V (T9 V)→(V→Res)→Res:=@QN.rec Q9 (fun _=>N5 V (T9 V)→(V→Res)→Res) aHP (fun q=>wx (gv9 q)) (fun q=>ur (gv9 q)) (fun q=>re (gv9 q)) (fun q=>wu (gv9 q))
abbrev aBG:=V→N5 V (T9 V)→(N5 V (T9 V)→Res)→Res
def aHr (v:V) (t:N5 V (T9 V)) (k:N5 V (T9 V)→Res):Res:=@N5.rec V (T9 V) (fun _=>V→(N5 V (T9 V)→Res)→Res) (fun _ a b c d v k=>k (.mk v a b c d)) t v k
def uj (p:Pv9) (v:V) (t:N5 V (T9 V)) (k:N5 V (T9 V)→Res):Res:=@N5.rec V (T9 V) (fun _=>Pv9→V→(N5 V (T9 V)→Res)→Res) (fun u a b c d p v k=>p v a fun x=>k (.mk u x b c d)) t p v k
def wm (p:Pv9) (v:V) (t:N5 V (T9 V)) (k:N5 V (T9 V)→Res):Res:=@N5.rec V (T9 V) (fun _=>Pv9→V→(N5 V (T9 V)→Res)→Res) (fun u a b c d p v k=>p v b fun x=>k (.mk u a x c d)) t p v k
def rm (p:Pv9) (v:V) (t:N5 V (T9 V)) (k:N5 V (T9 V)→Res):Res:=@N5.rec V (T9 V) (fun _=>Pv9→V→(N5 V (T9 V)→Res)→Res) (fun u a b c d p v k=>p v c fun x=>k (.mk u a b x d)) t p v k
def vm (p:Pv9) (v:V) (t:N5 V (T9 V)) (k:N5 V (T9 V)→Res):Res:=@N5.rec V (T9 V) (fun _=>Pv9→V→(N5 V (T9 V)→Res)→Res) (fun u a b c d p v k=>p v d fun x=>k (.mk u a b c x)) t p v k
def aIg:QN Q9→aBG:=@QN.rec Q9 (fun _=>aBG) aHr (fun q=>uj (dv9 q)) (fun q=>wm (dv9 q)) (fun q=>rm (dv9 q)) (fun q=>vm (dv9 q))
def eo1:N5 O (TQ O)→(O→Res)→Res:=@N5.rec O (TQ O) (fun _=>(O→Res)→Res) (fun v _ _ _ _ k=>k v)
def aMX (g:TQ O→(O→Res)→Res) (t:N5 O (TQ O)) (k:O→Res):Res:=@N5.rec O (TQ O) (fun _=>(TQ O→(O→Res)→Res)→(O→Res)→Res) (fun _ a _ _ _ g k=>g a k) t g k
def aNE (g:TQ O→(O→Res)→Res) (t:N5 O (TQ O)) (k:O→Res):Res:=@N5.rec O (TQ O) (fun _=>(TQ O→(O→Res)→Res)→(O→Res)→Res) (fun _ _ b _ _ g k=>g b k) t g k
def aLm (g:TQ O→(O→Res)→Res) (t:N5 O (TQ O)) (k:O→Res):Res:=@N5.rec O (TQ O) (fun _=>(TQ O→(O→Res)→Res)→(O→Res)→Res) (fun _ _ _ c _ g k=>g c k) t g k
def aKG (g:TQ O→(O→Res)→Res) (t:N5 O (TQ O)) (k:O→Res):Res:=@N5.rec O (TQ O) (fun _=>(TQ O→(O→Res)→Res)→(O→Res)→Res) (fun _ _ _ _ d g k=>g d k) t g k
def go0 (q:QR) (t:TQ O) (k:O→Res):Res:=k (t.get Dft.z q)
def go1:QN QR→N5 O (TQ O)→(O→Res)→Res:=@QN.rec QR (fun _=>N5 O (TQ O)→(O→Res)→Res) eo1 (fun q=>aMX (go0 q)) (fun q=>aNE (go0 q)) (fun q=>aLm (go0 q)) (fun q=>aKG (go0 q))
abbrev Po1:=O→N5 O (TQ O)→(N5 O (TQ O)→Res)→Res
def no1 (v:O) (t:N5 O (TQ O)) (k:N5 O (TQ O)→Res):Res:=@N5.rec O (TQ O) (fun _=>O→(N5 O (TQ O)→Res)→Res) (fun _ a b c d v k=>k (.mk v a b c d)) t v k
abbrev Po0:=O→TQ O→(TQ O→Res)→Res
def do0 (q:QR) (v:O) (t:TQ O) (k:TQ O→Res):Res:=k (t.put Dft.z v q)
def aK3 (p:Po0) (v:O) (t:N5 O (TQ O)) (k:N5 O (TQ O)→Res):Res:=@N5.rec O (TQ O) (fun _=>Po0→O→(N5 O (TQ O)→Res)→Res) (fun u a b c d p v k=>p v a fun x=>k (.mk u x b c d)) t p v k
def aMI (p:Po0) (v:O) (t:N5 O (TQ O)) (k:N5 O (TQ O)→Res):Res:=@N5.rec O (TQ O) (fun _=>Po0→O→(N5 O (TQ O)→Res)→Res) (fun u a b c d p v k=>p v b fun x=>k (.mk u a x c d)) t p v k
def aLK (p:Po0) (v:O) (t:N5 O (TQ O)) (k:N5 O (TQ O)→Res):Res:=@N5.rec O (TQ O) (fun _=>Po0→O→(N5 O (TQ O)→Res)→Res) (fun u a b c d p v k=>p v c fun x=>k (.mk u a b x d)) t p v k
def aOP (p:Po0) (v:O) (t:N5 O (TQ O)) (k:N5 O (TQ O)→Res):Res:=@N5.rec O (TQ O) (fun _=>Po0→O→(N5 O (TQ O)→Res)→Res) (fun u a b c d p v k=>p v d fun x=>k (.mk u a b c x)) t p v k
def do1:QN QR→Po1:=@QN.rec QR (fun _=>Po1) no1 (fun q=>aK3 (do0 q)) (fun q=>aMI (do0 q)) (fun q=>aLK (do0 q)) (fun q=>aOP (do0 q))
def eo2:N5 O (T1 O)→(O→Res)→Res:=@N5.rec O (T1 O) (fun _=>(O→Res)→Res) (fun v _ _ _ _ k=>k v)
def aOl (g:T1 O→(O→Res)→Res) (t:N5 O (T1 O)) (k:O→Res):Res:=@N5.rec O (T1 O) (fun _=>(T1 O→(O→Res)→Res)→(O→Res)→Res) (fun _ a _ _ _ g k=>g a k) t g k
def aMZ (g:T1 O→(O→Res)→Res) (t:N5 O (T1 O)) (k:O→Res):Res:=@N5.rec O (T1 O) (fun _=>(T1 O→(O→Res)→Res)→(O→Res)→Res) (fun _ _ b _ _ g k=>g b k) t g k
def aON (g:T1 O→(O→Res)→Res) (t:N5 O (T1 O)) (k:O→Res):Res:=@N5.rec O (T1 O) (fun _=>(T1 O→(O→Res)→Res)→(O→Res)→Res) (fun _ _ _ c _ g k=>g c k) t g k
def aMB (g:T1 O→(O→Res)→Res) (t:N5 O (T1 O)) (k:O→Res):Res:=@N5.rec O (T1 O) (fun _=>(T1 O→(O→Res)→Res)→(O→Res)→Res) (fun _ _ _ _ d g k=>g d k) t g k
def go2:QN Q1→N5 O (T1 O)→(O→Res)→Res:=@QN.rec Q1 (fun _=>N5 O (T1 O)→(O→Res)→Res) eo2 (fun q=>aOl (go1 q)) (fun q=>aMZ (go1 q)) (fun q=>aON (go1 q)) (fun q=>aMB (go1 q))
abbrev Po2:=O→N5 O (T1 O)→(N5 O (T1 O)→Res)→Res
def no2 (v:O) (t:N5 O (T1 O)) (k:N5 O (T1 O)→Res):Res:=@N5.rec O (T1 O) (fun _=>O→(N5 O (T1 O)→Res)→Res) (fun _ a b c d v k=>k (.mk v a b c d)) t v k
def aOd (p:Po1) (v:O) (t:N5 O (T1 O)) (k:N5 O (T1 O)→Res):Res:=@N5.rec O (T1 O) (fun _=>Po1→O→(N5 O (T1 O)→Res)→Res) (fun u a b c d p v k=>p v a fun x=>k (.mk u x b c d)) t p v k
def aMm (p:Po1) (v:O) (t:N5 O (T1 O)) (k:N5 O (T1 O)→Res):Res:=@N5.rec O (T1 O) (fun _=>Po1→O→(N5 O (T1 O)→Res)→Res) (fun u a b c d p v k=>p v b fun x=>k (.mk u a x c d)) t p v k
def aKV (p:Po1) (v:O) (t:N5 O (T1 O)) (k:N5 O (T1 O)→Res):Res:=@N5.rec O (T1 O) (fun _=>Po1→O→(N5 O (T1 O)→Res)→Res) (fun u a b c d p v k=>p v c fun x=>k (.mk u a b x d)) t p v k
def aLF (p:Po1) (v:O) (t:N5 O (T1 O)) (k:N5 O (T1 O)→Res):Res:=@N5.rec O (T1 O) (fun _=>Po1→O→(N5 O (T1 O)→Res)→Res) (fun u a b c d p v k=>p v d fun x=>k (.mk u a b c x)) t p v k
def do2:QN Q1→Po2:=@QN.rec Q1 (fun _=>Po2) no2 (fun q=>aOd (do1 q)) (fun q=>aMm (do1 q)) (fun q=>aKV (do1 q)) (fun q=>aLF (do1 q))
def eo3:N5 O (T2 O)→(O→Res)→Res:=@N5.rec O (T2 O) (fun _=>(O→Res)→Res) (fun v _ _ _ _ k=>k v)
def aLb (g:T2 O→(O→Res)→Res) (t:N5 O (T2 O)) (k:O→Res):Res:=@N5.rec O (T2 O) (fun _=>(T2 O→(O→Res)→Res)→(O→Res)→Res) (fun _ a _ _ _ g k=>g a k) t g k
def aLi (g:T2 O→(O→Res)→Res) (t:N5 O (T2 O)) (k:O→Res):Res:=@N5.rec O (T2 O) (fun _=>(T2 O→(O→Res)→Res)→(O→Res)→Res) (fun _ _ b _ _ g k=>g b k) t g k
def aK2 (g:T2 O→(O→Res)→Res) (t:N5 O (T2 O)) (k:O→Res):Res:=@N5.rec O (T2 O) (fun _=>(T2 O→(O→Res)→Res)→(O→Res)→Res) (fun _ _ _ c _ g k=>g c k) t g k
def aOI (g:T2 O→(O→Res)→Res) (t:N5 O (T2 O)) (k:O→Res):Res:=@N5.rec O (T2 O) (fun _=>(T2 O→(O→Res)→Res)→(O→Res)→Res) (fun _ _ _ _ d g k=>g d k) t g k
def go3:QN Q2→N5 O (T2 O)→(O→Res)→Res:=@QN.rec Q2 (fun _=>N5 O (T2 O)→(O→Res)→Res) eo3 (fun q=>aLb (go2 q)) (fun q=>aLi (go2 q)) (fun q=>aK2 (go2 q)) (fun q=>aOI (go2 q))
abbrev Po3:=O→N5 O (T2 O)→(N5 O (T2 O)→Res)→Res
def no3 (v:O) (t:N5 O (T2 O)) (k:N5 O (T2 O)→Res):Res:=@N5.rec O (T2 O) (fun _=>O→(N5 O (T2 O)→Res)→Res) (fun _ a b c d v k=>k (.mk v a b c d)) t v k
def aNW (p:Po2) (v:O) (t:N5 O (T2 O)) (k:N5 O (T2 O)→Res):Res:=@N5.rec O (T2 O) (fun _=>Po2→O→(N5 O (T2 O)→Res)→Res) (fun u a b c d p v k=>p v a fun x=>k (.mk u x b c d)) t p v k
def aLg (p:Po2) (v:O) (t:N5 O (T2 O)) (k:N5 O (T2 O)→Res):Res:=@N5.rec O (T2 O) (fun _=>Po2→O→(N5 O (T2 O)→Res)→Res) (fun u a b c d p v k=>p v b fun x=>k (.mk u a x c d)) t p v k
def aOa (p:Po2) (v:O) (t:N5 O (T2 O)) (k:N5 O (T2 O)→Res):Res:=@N5.rec O (T2 O) (fun _=>Po2→O→(N5 O (T2 O)→Res)→Res) (fun u a b c d p v k=>p v c fun x=>k (.mk u a b x d)) t p v k
def aNw (p:Po2) (v:O) (t:N5 O (T2 O)) (k:N5 O (T2 O)→Res):Res:=@N5.rec O (T2 O) (fun _=>Po2→O→(N5 O (T2 O)→Res)→Res) (fun u a b c d p v k=>p v d fun x=>k (.mk u a b c x)) t p v k
def do3:QN Q2→Po3:=@QN.rec Q2 (fun _=>Po3) no3 (fun q=>aNW (do2 q)) (fun q=>aLg (do2 q)) (fun q=>aOa (do2 q)) (fun q=>aNw (do2 q))
def eo4:N5 O (T3 O)→(O→Res)→Res:=@N5.rec O (T3 O) (fun _=>(O→Res)→Res) (fun v _ _ _ _ k=>k v)
def aK6 (g:T3 O→(O→Res)→Res) (t:N5 O (T3 O)) (k:O→Res):Res:=@N5.rec O (T3 O) (fun _=>(T3 O→(O→Res)→Res)→(O→Res)→Res) (fun _ a _ _ _ g k=>g a k) t g k
def aOK (g:T3 O→(O→Res)→Res) (t:N5 O (T3 O)) (k:O→Res):Res:=@N5.rec O (T3 O) (fun _=>(T3 O→(O→Res)→Res)→(O→Res)→Res) (fun _ _ b _ _ g k=>g b k) t g k
def aLx (g:T3 O→(O→Res)→Res) (t:N5 O (T3 O)) (k:O→Res):Res:=@N5.rec O (T3 O) (fun _=>(T3 O→(O→Res)→Res)→(O→Res)→Res) (fun _ _ _ c _ g k=>g c k) t g k
def aOh (g:T3 O→(O→Res)→Res) (t:N5 O (T3 O)) (k:O→Res):Res:=@N5.rec O (T3 O) (fun _=>(T3 O→(O→Res)→Res)→(O→Res)→Res) (fun _ _ _ _ d g k=>g d k) t g k
def go4:QN Q3→N5 O (T3 O)→(O→Res)→Res:=@QN.rec Q3 (fun _=>N5 O (T3 O)→(O→Res)→Res) eo4 (fun q=>aK6 (go3 q)) (fun q=>aOK (go3 q)) (fun q=>aLx (go3 q)) (fun q=>aOh (go3 q))
abbrev Po4:=O→N5 O (T3 O)→(N5 O (T3 O)→Res)→Res
def no4 (v:O) (t:N5 O (T3 O)) (k:N5 O (T3 O)→Res):Res:=@N5.rec O (T3 O) (fun _=>O→(N5 O (T3 O)→Res)→Res) (fun _ a b c d v k=>k (.mk v a b c d)) t v k
def aMg (p:Po3) (v:O) (t:N5 O (T3 O)) (k:N5 O (T3 O)→Res):Res:=@N5.rec O (T3 O) (fun _=>Po3→O→(N5 O (T3 O)→Res)→Res) (fun u a b c d p v k=>p v a fun x=>k (.mk u x b c d)) t p v k
def aKA (p:Po3) (v:O) (t:N5 O (T3 O)) (k:N5 O (T3 O)→Res):Res:=@N5.rec O (T3 O) (fun _=>Po3→O→(N5 O (T3 O)→Res)→Res) (fun u a b c d p v k=>p v b fun x=>k (.mk u a x c d)) t p v k
def aMu (p:Po3) (v:O) (t:N5 O (T3 O)) (k:N5 O (T3 O)→Res):Res:=@N5.rec O (T3 O) (fun _=>Po3→O→(N5 O (T3 O)→Res)→Res) (fun u a b c d p v k=>p v c fun x=>k (.mk u a b x d)) t p v k
def aNl (p:Po3) (v:O) (t:N5 O (T3 O)) (k:N5 O (T3 O)→Res):Res:=@N5.rec O (T3 O) (fun _=>Po3→O→(N5 O (T3 O)→Res)→Res) (fun u a b c d p v k=>p v d fun x=>k (.mk u a b c x)) t p v k
def do4:QN Q3→Po4:=@QN.rec Q3 (fun _=>Po4) no4 (fun q=>aMg (do3 q)) (fun q=>aKA (do3 q)) (fun q=>aMu (do3 q)) (fun q=>aNl (do3 q))
def eo5:N5 O (T4 O)→(O→Res)→Res:=@N5.rec O (T4 O) (fun _=>(O→Res)→Res) (fun v _ _ _ _ k=>k v)
def aNQ (g:T4 O→(O→Res)→Res) (t:N5 O (T4 O)) (k:O→Res):Res:=@N5.rec O (T4 O) (fun _=>(T4 O→(O→Res)→Res)→(O→Res)→Res) (fun _ a _ _ _ g k=>g a k) t g k
def aOO (g:T4 O→(O→Res)→Res) (t:N5 O (T4 O)) (k:O→Res):Res:=@N5.rec O (T4 O) (fun _=>(T4 O→(O→Res)→Res)→(O→Res)→Res) (fun _ _ b _ _ g k=>g b k) t g k
def aNA (g:T4 O→(O→Res)→Res) (t:N5 O (T4 O)) (k:O→Res):Res:=@N5.rec O (T4 O) (fun _=>(T4 O→(O→Res)→Res)→(O→Res)→Res) (fun _ _ _ c _ g k=>g c k) t g k
def aOf (g:T4 O→(O→Res)→Res) (t:N5 O (T4 O)) (k:O→Res):Res:=@N5.rec O (T4 O) (fun _=>(T4 O→(O→Res)→Res)→(O→Res)→Res) (fun _ _ _ _ d g k=>g d k) t g k
def go5:QN Q4→N5 O (T4 O)→(O→Res)→Res:=@QN.rec Q4 (fun _=>N5 O (T4 O)→(O→Res)→Res) eo5 (fun q=>aNQ (go4 q)) (fun q=>aOO (go4 q)) (fun q=>aNA (go4 q)) (fun q=>aOf (go4 q))
abbrev Po5:=O→N5 O (T4 O)→(N5 O (T4 O)→Res)→Res
def no5 (v:O) (t:N5 O (T4 O)) (k:N5 O (T4 O)→Res):Res:=@N5.rec O (T4 O) (fun _=>O→(N5 O (T4 O)→Res)→Res) (fun _ a b c d v k=>k (.mk v a b c d)) t v k
def aNL (p:Po4) (v:O) (t:N5 O (T4 O)) (k:N5 O (T4 O)→Res):Res:=@N5.rec O (T4 O) (fun _=>Po4→O→(N5 O (T4 O)→Res)→Res) (fun u a b c d p v k=>p v a fun x=>k (.mk u x b c d)) t p v k
def aLy (p:Po4) (v:O) (t:N5 O (T4 O)) (k:N5 O (T4 O)→Res):Res:=@N5.rec O (T4 O) (fun _=>Po4→O→(N5 O (T4 O)→Res)→Res) (fun u a b c d p v k=>p v b fun x=>k (.mk u a x c d)) t p v k
def aM3 (p:Po4) (v:O) (t:N5 O (T4 O)) (k:N5 O (T4 O)→Res):Res:=@N5.rec O (T4 O) (fun _=>Po4→O→(N5 O (T4 O)→Res)→Res) (fun u a b c d p v k=>p v c fun x=>k (.mk u a b x d)) t p v k
def aKH (p:Po4) (v:O) (t:N5 O (T4 O)) (k:N5 O (T4 O)→Res):Res:=@N5.rec O (T4 O) (fun _=>Po4→O→(N5 O (T4 O)→Res)→Res) (fun u a b c d p v k=>p v d fun x=>k (.mk u a b c x)) t p v k
def do5:QN Q4→Po5:=@QN.rec Q4 (fun _=>Po5) no5 (fun q=>aNL (do4 q)) (fun q=>aLy (do4 q)) (fun q=>aM3 (do4 q)) (fun q=>aKH (do4 q))
def eo6:N5 O (T5 O)→(O→Res)→Res:=@N5.rec O (T5 O) (fun _=>(O→Res)→Res) (fun v _ _ _ _ k=>k v)
def aLW (g:T5 O→(O→Res)→Res) (t:N5 O (T5 O)) (k:O→Res):Res:=@N5.rec O (T5 O) (fun _=>(T5 O→(O→Res)→Res)→(O→Res)→Res) (fun _ a _ _ _ g k=>g a k) t g k
def aNf (g:T5 O→(O→Res)→Res) (t:N5 O (T5 O)) (k:O→Res):Res:=@N5.rec O (T5 O) (fun _=>(T5 O→(O→Res)→Res)→(O→Res)→Res) (fun _ _ b _ _ g k=>g b k) t g k
def aKj (g:T5 O→(O→Res)→Res) (t:N5 O (T5 O)) (k:O→Res):Res:=@N5.rec O (T5 O) (fun _=>(T5 O→(O→Res)→Res)→(O→Res)→Res) (fun _ _ _ c _ g k=>g c k) t g k
def aOb (g:T5 O→(O→Res)→Res) (t:N5 O (T5 O)) (k:O→Res):Res:=@N5.rec O (T5 O) (fun _=>(T5 O→(O→Res)→Res)→(O→Res)→Res) (fun _ _ _ _ d g k=>g d k) t g k
def go6:QN Q5→N5 O (T5 O)→(O→Res)→Res:=@QN.rec Q5 (fun _=>N5 O (T5 O)→(O→Res)→Res) eo6 (fun q=>aLW (go5 q)) (fun q=>aNf (go5 q)) (fun q=>aKj (go5 q)) (fun q=>aOb (go5 q))
abbrev Po6:=O→N5 O (T5 O)→(N5 O (T5 O)→Res)→Res
def no6 (v:O) (t:N5 O (T5 O)) (k:N5 O (T5 O)→Res):Res:=@N5.rec O (T5 O) (fun _=>O→(N5 O (T5 O)→Res)→Res) (fun _ a b c d v k=>k (.mk v a b c d)) t v k
def aKB (p:Po5) (v:O) (t:N5 O (T5 O)) (k:N5 O (T5 O)→Res):Res:=@N5.rec O (T5 O) (fun _=>Po5→O→(N5 O (T5 O)→Res)→Res) (fun u a b c d p v k=>p v a fun x=>k (.mk u x b c d)) t p v k
def aMx (p:Po5) (v:O) (t:N5 O (T5 O)) (k:N5 O (T5 O)→Res):Res:=@N5.rec O (T5 O) (fun _=>Po5→O→(N5 O (T5 O)→Res)→Res) (fun u a b c d p v k=>p v b fun x=>k (.mk u a x c d)) t p v k
def aMf (p:Po5) (v:O) (t:N5 O (T5 O)) (k:N5 O (T5 O)→Res):Res:=@N5.rec O (T5 O) (fun _=>Po5→O→(N5 O (T5 O)→Res)→Res) (fun u a b c d p v k=>p v c fun x=>k (.mk u a b x d)) t p v k
def aM2 (p:Po5) (v:O) (t:N5 O (T5 O)) (k:N5 O (T5 O)→Res):Res:=@N5.rec O (T5 O) (fun _=>Po5→O→(N5 O (T5 O)→Res)→Res) (fun u a b c d p v k=>p v d fun x=>k (.mk u a b c x)) t p v k
def do6:QN Q5→Po6:=@QN.rec Q5 (fun _=>Po6) no6 (fun q=>aKB (do5 q)) (fun q=>aMx (do5 q)) (fun q=>aMf (do5 q)) (fun q=>aM2 (do5 q))
def eo7:N5 O (T6 O)→(O→Res)→Res:=@N5.rec O (T6 O) (fun _=>(O→Res)→Res) (fun v _ _ _ _ k=>k v)
def aNt (g:T6 O→(O→Res)→Res) (t:N5 O (T6 O)) (k:O→Res):Res:=@N5.rec O (T6 O) (fun _=>(T6 O→(O→Res)→Res)→(O→Res)→Res) (fun _ a _ _ _ g k=>g a k) t g k
def aOy (g:T6 O→(O→Res)→Res) (t:N5 O (T6 O)) (k:O→Res):Res:=@N5.rec O (T6 O) (fun _=>(T6 O→(O→Res)→Res)→(O→Res)→Res) (fun _ _ b _ _ g k=>g b k) t g k
def aN3 (g:T6 O→(O→Res)→Res) (t:N5 O (T6 O)) (k:O→Res):Res:=@N5.rec O (T6 O) (fun _=>(T6 O→(O→Res)→Res)→(O→Res)→Res) (fun _ _ _ c _ g k=>g c k) t g k
def aOv (g:T6 O→(O→Res)→Res) (t:N5 O (T6 O)) (k:O→Res):Res:=@N5.rec O (T6 O) (fun _=>(T6 O→(O→Res)→Res)→(O→Res)→Res) (fun _ _ _ _ d g k=>g d k) t g k
def go7:QN Q6→N5 O (T6 O)→(O→Res)→Res:=@QN.rec Q6 (fun _=>N5 O (T6 O)→(O→Res)→Res) eo7 (fun q=>aNt (go6 q)) (fun q=>aOy (go6 q)) (fun q=>aN3 (go6 q)) (fun q=>aOv (go6 q))
abbrev Po7:=O→N5 O (T6 O)→(N5 O (T6 O)→Res)→Res
def no7 (v:O) (t:N5 O (T6 O)) (k:N5 O (T6 O)→Res):Res:=@N5.rec O (T6 O) (fun _=>O→(N5 O (T6 O)→Res)→Res) (fun _ a b c d v k=>k (.mk v a b c d)) t v k
def aML (p:Po6) (v:O) (t:N5 O (T6 O)) (k:N5 O (T6 O)→Res):Res:=@N5.rec O (T6 O) (fun _=>Po6→O→(N5 O (T6 O)→Res)→Res) (fun u a b c d p v k=>p v a fun x=>k (.mk u x b c d)) t p v k
def aMT (p:Po6) (v:O) (t:N5 O (T6 O)) (k:N5 O (T6 O)→Res):Res:=@N5.rec O (T6 O) (fun _=>Po6→O→(N5 O (T6 O)→Res)→Res) (fun u a b c d p v k=>p v b fun x=>k (.mk u a x c d)) t p v k
def aKT (p:Po6) (v:O) (t:N5 O (T6 O)) (k:N5 O (T6 O)→Res):Res:=@N5.rec O (T6 O) (fun _=>Po6→O→(N5 O (T6 O)→Res)→Res) (fun u a b c d p v k=>p v c fun x=>k (.mk u a b x d)) t p v k
def aM0 (p:Po6) (v:O) (t:N5 O (T6 O)) (k:N5 O (T6 O)→Res):Res:=@N5.rec O (T6 O) (fun _=>Po6→O→(N5 O (T6 O)→Res)→Res) (fun u a b c d p v k=>p v d fun x=>k (.mk u a b c x)) t p v k
def do7:QN Q6→Po7:=@QN.rec Q6 (fun _=>Po7) no7 (fun q=>aML (do6 q)) (fun q=>aMT (do6 q)) (fun q=>aKT (do6 q)) (fun q=>aM0 (do6 q))
def eo8:N5 O (T7 O)→(O→Res)→Res:=@N5.rec O (T7 O) (fun _=>(O→Res)→Res) (fun v _ _ _ _ k=>k v)
def aKw (g:T7 O→(O→Res)→Res) (t:N5 O (T7 O)) (k:O→Res):Res:=@N5.rec O (T7 O) (fun _=>(T7 O→(O→Res)→Res)→(O→Res)→Res) (fun _ a _ _ _ g k=>g a k) t g k
def aKI (g:T7 O→(O→Res)→Res) (t:N5 O (T7 O)) (k:O→Res):Res:=@N5.rec O (T7 O) (fun _=>(T7 O→(O→Res)→Res)→(O→Res)→Res) (fun _ _ b _ _ g k=>g b k) t g k
def aMO (g:T7 O→(O→Res)→Res) (t:N5 O (T7 O)) (k:O→Res):Res:=@N5.rec O (T7 O) (fun _=>(T7 O→(O→Res)→Res)→(O→Res)→Res) (fun _ _ _ c _ g k=>g c k) t g k
def aLI (g:T7 O→(O→Res)→Res) (t:N5 O (T7 O)) (k:O→Res):Res:=@N5.rec O (T7 O) (fun _=>(T7 O→(O→Res)→Res)→(O→Res)→Res) (fun _ _ _ _ d g k=>g d k) t g k
def go8:QN Q7→N5 O (T7 O)→(O→Res)→Res:=@QN.rec Q7 (fun _=>N5 O (T7 O)→(O→Res)→Res) eo8 (fun q=>aKw (go7 q)) (fun q=>aKI (go7 q)) (fun q=>aMO (go7 q)) (fun q=>aLI (go7 q))
abbrev Po8:=O→N5 O (T7 O)→(N5 O (T7 O)→Res)→Res
def no8 (v:O) (t:N5 O (T7 O)) (k:N5 O (T7 O)→Res):Res:=@N5.rec O (T7 O) (fun _=>O→(N5 O (T7 O)→Res)→Res) (fun _ a b c d v k=>k (.mk v a b c d)) t v k
def aM4 (p:Po7) (v:O) (t:N5 O (T7 O)) (k:N5 O (T7 O)→Res):Res:=@N5.rec O (T7 O) (fun _=>Po7→O→(N5 O (T7 O)→Res)→Res) (fun u a b c d p v k=>p v a fun x=>k (.mk u x b c d)) t p v k
def aMr (p:Po7) (v:O) (t:N5 O (T7 O)) (k:N5 O (T7 O)→Res):Res:=@N5.rec O (T7 O) (fun _=>Po7→O→(N5 O (T7 O)→Res)→Res) (fun u a b c d p v k=>p v b fun x=>k (.mk u a x c d)) t p v k
def aMA (p:Po7) (v:O) (t:N5 O (T7 O)) (k:N5 O (T7 O)→Res):Res:=@N5.rec O (T7 O) (fun _=>Po7→O→(N5 O (T7 O)→Res)→Res) (fun u a b c d p v k=>p v c fun x=>k (.mk u a b x d)) t p v k
def aOz (p:Po7) (v:O) (t:N5 O (T7 O)) (k:N5 O (T7 O)→Res):Res:=@N5.rec O (T7 O) (fun _=>Po7→O→(N5 O (T7 O)→Res)→Res) (fun u a b c d p v k=>p v d fun x=>k (.mk u a b c x)) t p v k
def do8:QN Q7→Po8:=@QN.rec Q7 (fun _=>Po8) no8 (fun q=>aM4 (do7 q)) (fun q=>aMr (do7 q)) (fun q=>aMA (do7 q)) (fun q=>aOz (do7 q))
def eo9:N5 O (T8 O)→(O→Res)→Res:=@N5.rec O (T8 O) (fun _=>(O→Res)→Res) (fun v _ _ _ _ k=>k v)
def aLp (g:T8 O→(O→Res)→Res) (t:N5 O (T8 O)) (k:O→Res):Res:=@N5.rec O (T8 O) (fun _=>(T8 O→(O→Res)→Res)→(O→Res)→Res) (fun _ a _ _ _ g k=>g a k) t g k
def aLr (g:T8 O→(O→Res)→Res) (t:N5 O (T8 O)) (k:O→Res):Res:=@N5.rec O (T8 O) (fun _=>(T8 O→(O→Res)→Res)→(O→Res)→Res) (fun _ _ b _ _ g k=>g b k) t g k
def aMn (g:T8 O→(O→Res)→Res) (t:N5 O (T8 O)) (k:O→Res):Res:=@N5.rec O (T8 O) (fun _=>(T8 O→(O→Res)→Res)→(O→Res)→Res) (fun _ _ _ c _ g k=>g c k) t g k
def aMi (g:T8 O→(O→Res)→Res) (t:N5 O (T8 O)) (k:O→Res):Res:=@N5.rec O (T8 O) (fun _=>(T8 O→(O→Res)→Res)→(O→Res)→Res) (fun _ _ _ _ d g k=>g d k) t g k
def go9:QN Q8→N5 O (T8 O)→(O→Res)→Res:=@QN.rec Q8 (fun _=>N5 O (T8 O)→(O→Res)→Res) eo9 (fun q=>aLp (go8 q)) (fun q=>aLr (go8 q)) (fun q=>aMn (go8 q)) (fun q=>aMi (go8 q))
abbrev Po9:=O→N5 O (T8 O)→(N5 O (T8 O)→Res)→Res
def no9 (v:O) (t:N5 O (T8 O)) (k:N5 O (T8 O)→Res):Res:=@N5.rec O (T8 O) (fun _=>O→(N5 O (T8 O)→Res)→Res) (fun _ a b c d v k=>k (.mk v a b c d)) t v k
def aMj (p:Po8) (v:O) (t:N5 O (T8 O)) (k:N5 O (T8 O)→Res):Res:=@N5.rec O (T8 O) (fun _=>Po8→O→(N5 O (T8 O)→Res)→Res) (fun u a b c d p v k=>p v a fun x=>k (.mk u x b c d)) t p v k
def aNk (p:Po8) (v:O) (t:N5 O (T8 O)) (k:N5 O (T8 O)→Res):Res:=@N5.rec O (T8 O) (fun _=>Po8→O→(N5 O (T8 O)→Res)→Res) (fun u a b c d p v k=>p v b fun x=>k (.mk u a x c d)) t p v k
def aN1 (p:Po8) (v:O) (t:N5 O (T8 O)) (k:N5 O (T8 O)→Res):Res:=@N5.rec O (T8 O) (fun _=>Po8→O→(N5 O (T8 O)→Res)→Res) (fun u a b c d p v k=>p v c fun x=>k (.mk u a b x d)) t p v k
def aOD (p:Po8) (v:O) (t:N5 O (T8 O)) (k:N5 O (T8 O)→Res):Res:=@N5.rec O (T8 O) (fun _=>Po8→O→(N5 O (T8 O)→Res)→Res) (fun u a b c d p v k=>p v d fun x=>k (.mk u a b c x)) t p v k
def do9:QN Q8→Po9:=@QN.rec Q8 (fun _=>Po9) no9 (fun q=>aMj (do8 q)) (fun q=>aNk (do8 q)) (fun q=>aN1 (do8 q)) (fun q=>aOD (do8 q))
def aMs:N5 O (T9 O)→(O→Res)→Res:=@N5.rec O (T9 O) (fun _=>(O→Res)→Res) (fun v _ _ _ _ k=>k v)
def aIq (g:T9 O→(O→Res)→Res) (t:N5 O (T9 O)) (k:O→Res):Res:=@N5.rec O (T9 O) (fun _=>(T9 O→(O→Res)→Res)→(O→Res)→Res) (fun _ a _ _ _ g k=>g a k) t g k
def aIT (g:T9 O→(O→Res)→Res) (t:N5 O (T9 O)) (k:O→Res):Res:=@N5.rec O (T9 O) (fun _=>(T9 O→(O→Res)→Res)→(O→Res)→Res) (fun _ _ b _ _ g k=>g b k) t g k
def aIQ (g:T9 O→(O→Res)→Res) (t:N5 O (T9 O)) (k:O→Res):Res:=@N5.rec O (T9 O) (fun _=>(T9 O→(O→Res)→Res)→(O→Res)→Res) (fun _ _ _ c _ g k=>g c k) t g k
def aIF (g:T9 O→(O→Res)→Res) (t:N5 O (T9 O)) (k:O→Res):Res:=@N5.rec O (T9 O) (fun _=>(T9 O→(O→Res)→Res)→(O→Res)→Res) (fun _ _ _ _ d g k=>g d k) t g k
def aI6:QN Q9→N5 O (T9 O)→(O→Res)→Res:=@QN.rec Q9 (fun _=>N5 O (T9 O)→(O→Res)→Res) aMs (fun q=>aIq (go9 q)) (fun q=>aIT (go9 q)) (fun q=>aIQ (go9 q)) (fun q=>aIF (go9 q))
abbrev aIw:=O→N5 O (T9 O)→(N5 O (T9 O)→Res)→Res
def aKu (v:O) (t:N5 O (T9 O)) (k:N5 O (T9 O)→Res):Res:=@N5.rec O (T9 O) (fun _=>O→(N5 O (T9 O)→Res)→Res) (fun _ a b c d v k=>k (.mk v a b c d)) t v k
def aJy (p:Po9) (v:O) (t:N5 O (T9 O)) (k:N5 O (T9 O)→Res):Res:=@N5.rec O (T9 O) (fun _=>Po9→O→(N5 O (T9 O)→Res)→Res) (fun u a b c d p v k=>p v a fun x=>k (.mk u x b c d)) t p v k
def aIf (p:Po9) (v:O) (t:N5 O (T9 O)) (k:N5 O (T9 O)→Res):Res:=@N5.rec O (T9 O) (fun _=>Po9→O→(N5 O (T9 O)→Res)→Res) (fun u a b c d p v k=>p v b fun x=>k (.mk u a x c d)) t p v k
def aIr (p:Po9) (v:O) (t:N5 O (T9 O)) (k:N5 O (T9 O)→Res):Res:=@N5.rec O (T9 O) (fun _=>Po9→O→(N5 O (T9 O)→Res)→Res) (fun u a b c d p v k=>p v c fun x=>k (.mk u a b x d)) t p v k
def aIv (p:Po9) (v:O) (t:N5 O (T9 O)) (k:N5 O (T9 O)→Res):Res:=@N5.rec O (T9 O) (fun _=>Po9→O→(N5 O (T9 O)→Res)→Res) (fun u a b c d p v k=>p v d fun x=>k (.mk u a b c x)) t p v k
def aJU:QN Q9→aIw:=@QN.rec Q9 (fun _=>aIw) aKu (fun q=>aJy (do9 q)) (fun q=>aIf (do9 q)) (fun q=>aIr (do9 q)) (fun q=>aIv (do9 q))
def sq0 (q:QR) (k:QR→Res):Res:=k q.succ
def aAy (p q:QR):Bool:=p.beq q
def sq1:QN QR→(QN QR→Res)→Res:=@QN.rec QR (fun _=>(QN QR→Res)→Res) (fun k=>k (.a QR.e)) (fun q k=>k (.b q)) (fun q k=>k (.c q)) (fun q k=>k (.d q)) (fun q k=>sq0 q fun p=>k (.a p))
def aAm:QN QR→QN QR→Bool:=@QN.rec QR (fun _=>QN QR→Bool) (fun p=>@QN.rec QR (fun _=>Bool) true (fun _=>false) (fun _=>false) (fun _=>false) (fun _=>false) p) (fun q p=>@QN.rec QR (fun _=>QR→Bool) (fun _=>false) (fun p q=>aAy q p) (fun _ _=>false) (fun _ _=>false) (fun _ _=>false) p q) (fun q p=>@QN.rec QR (fun _=>QR→Bool) (fun _=>false) (fun _ _=>false) (fun p q=>aAy q p) (fun _ _=>false) (fun _ _=>false) p q) (fun q p=>@QN.rec QR (fun _=>QR→Bool) (fun _=>false) (fun _ _=>false) (fun _ _=>false) (fun p q=>aAy q p) (fun _ _=>false) p q) (fun q p=>@QN.rec QR (fun _=>QR→Bool) (fun _=>false) (fun _ _=>false) (fun _ _=>false) (fun _ _=>false) (fun p q=>aAy q p) p q)
def sq2:QN Q1→(QN Q1→Res)→Res:=@QN.rec Q1 (fun _=>(QN Q1→Res)→Res) (fun k=>k (.a (QN.e (α:=QR)))) (fun q k=>k (.b q)) (fun q k=>k (.c q)) (fun q k=>k (.d q)) (fun q k=>sq1 q fun p=>k (.a p))
def aBf:QN Q1→QN Q1→Bool:=@QN.rec Q1 (fun _=>QN Q1→Bool) (fun p=>@QN.rec Q1 (fun _=>Bool) true (fun _=>false) (fun _=>false) (fun _=>false) (fun _=>false) p) (fun q p=>@QN.rec Q1 (fun _=>Q1→Bool) (fun _=>false) (fun p q=>aAm q p) (fun _ _=>false) (fun _ _=>false) (fun _ _=>false) p q) (fun q p=>@QN.rec Q1 (fun _=>Q1→Bool) (fun _=>false) (fun _ _=>false) (fun p q=>aAm q p) (fun _ _=>false) (fun _ _=>false) p q) (fun q p=>@QN.rec Q1 (fun _=>Q1→Bool) (fun _=>false) (fun _ _=>false) (fun _ _=>false) (fun p q=>aAm q p) (fun _ _=>false) p q) (fun q p=>@QN.rec Q1 (fun _=>Q1→Bool) (fun _=>false) (fun _ _=>false) (fun _ _=>false) (fun _ _=>false) (fun p q=>aAm q p) p q)
def sq3:QN Q2→(QN Q2→Res)→Res:=@QN.rec Q2 (fun _=>(QN Q2→Res)→Res) (fun k=>k (.a (QN.e (α:=Q1)))) (fun q k=>k (.b q)) (fun q k=>k (.c q)) (fun q k=>k (.d q)) (fun q k=>sq2 q fun p=>k (.a p))
def aBj:QN Q2→QN Q2→Bool:=@QN.rec Q2 (fun _=>QN Q2→Bool) (fun p=>@QN.rec Q2 (fun _=>Bool) true (fun _=>false) (fun _=>false) (fun _=>false) (fun _=>false) p) (fun q p=>@QN.rec Q2 (fun _=>Q2→Bool) (fun _=>false) (fun p q=>aBf q p) (fun _ _=>false) (fun _ _=>false) (fun _ _=>false) p q) (fun q p=>@QN.rec Q2 (fun _=>Q2→Bool) (fun _=>false) (fun _ _=>false) (fun p q=>aBf q p) (fun _ _=>false) (fun _ _=>false) p q) (fun q p=>@QN.rec Q2 (fun _=>Q2→Bool) (fun _=>false) (fun _ _=>false) (fun _ _=>false) (fun p q=>aBf q p) (fun _ _=>false) p q) (fun q p=>@QN.rec Q2 (fun _=>Q2→Bool) (fun _=>false) (fun _ _=>false) (fun _ _=>false) (fun _ _=>false) (fun p q=>aBf q p) p q)
def sq4:QN Q3→(QN Q3→Res)→Res:=@QN.rec Q3 (fun _=>(QN Q3→Res)→Res) (fun k=>k (.a (QN.e (α:=Q2)))) (fun q k=>k (.b q)) (fun q k=>k (.c q)) (fun q k=>k (.d q)) (fun q k=>sq3 q fun p=>k (.a p))
def aAc:QN Q3→QN Q3→Bool:=@QN.rec Q3 (fun _=>QN Q3→Bool) (fun p=>@QN.rec Q3 (fun _=>Bool) true (fun _=>false) (fun _=>false) (fun _=>false) (fun _=>false) p) (fun q p=>@QN.rec Q3 (fun _=>Q3→Bool) (fun _=>false) (fun p q=>aBj q p) (fun _ _=>false) (fun _ _=>false) (fun _ _=>false) p q) (fun q p=>@QN.rec Q3 (fun _=>Q3→Bool) (fun _=>false) (fun _ _=>false) (fun p q=>aBj q p) (fun _ _=>false) (fun _ _=>false) p q) (fun q p=>@QN.rec Q3 (fun _=>Q3→Bool) (fun _=>false) (fun _ _=>false) (fun _ _=>false) (fun p q=>aBj q p) (fun _ _=>false) p q) (fun q p=>@QN.rec Q3 (fun _=>Q3→Bool) (fun _=>false) (fun _ _=>false) (fun _ _=>false) (fun _ _=>false) (fun p q=>aBj q p) p q)
def sq5:QN Q4→(QN Q4→Res)→Res:=@QN.rec Q4 (fun _=>(QN Q4→Res)→Res) (fun k=>k (.a (QN.e (α:=Q3)))) (fun q k=>k (.b q)) (fun q k=>k (.c q)) (fun q k=>k (.d q)) (fun q k=>sq4 q fun p=>k (.a p))
def aCs:QN Q4→QN Q4→Bool:=@QN.rec Q4 (fun _=>QN Q4→Bool) (fun p=>@QN.rec Q4 (fun _=>Bool) true (fun _=>false) (fun _=>false) (fun _=>false) (fun _=>false) p) (fun q p=>@QN.rec Q4 (fun _=>Q4→Bool) (fun _=>false) (fun p q=>aAc q p) (fun _ _=>false) (fun _ _=>false) (fun _ _=>false) p q) (fun q p=>@QN.rec Q4 (fun _=>Q4→Bool) (fun _=>false) (fun _ _=>false) (fun p q=>aAc q p) (fun _ _=>false) (fun _ _=>false) p q) (fun q p=>@QN.rec Q4 (fun _=>Q4→Bool) (fun _=>false) (fun _ _=>false) (fun _ _=>false) (fun p q=>aAc q p) (fun _ _=>false) p q) (fun q p=>@QN.rec Q4 (fun _=>Q4→Bool) (fun _=>false) (fun _ _=>false) (fun _ _=>false) (fun _ _=>false) (fun p q=>aAc q p) p q)
def sq6:QN Q5→(QN Q5→Res)→Res:=@QN.rec Q5 (fun _=>(QN Q5→Res)→Res) (fun k=>k (.a (QN.e (α:=Q4)))) (fun q k=>k (.b q)) (fun q k=>k (.c q)) (fun q k=>k (.d q)) (fun q k=>sq5 q fun p=>k (.a p))
def aCD:QN Q5→QN Q5→Bool:=@QN.rec Q5 (fun _=>QN Q5→Bool) (fun p=>@QN.rec Q5 (fun _=>Bool) true (fun _=>false) (fun _=>false) (fun _=>false) (fun _=>false) p) (fun q p=>@QN.rec Q5 (fun _=>Q5→Bool) (fun _=>false) (fun p q=>aCs q p) (fun _ _=>false) (fun _ _=>false) (fun _ _=>false) p q) (fun q p=>@QN.rec Q5 (fun _=>Q5→Bool) (fun _=>false) (fun _ _=>false) (fun p q=>aCs q p) (fun _ _=>false) (fun _ _=>false) p q) (fun q p=>@QN.rec Q5 (fun _=>Q5→Bool) (fun _=>false) (fun _ _=>false) (fun _ _=>false) (fun p q=>aCs q p) (fun _ _=>false) p q) (fun q p=>@QN.rec Q5 (fun _=>Q5→Bool) (fun _=>false) (fun _ _=>false) (fun _ _=>false) (fun _ _=>false) (fun p q=>aCs q p) p q)
def sq7:QN Q6→(QN Q6→Res)→Res:=@QN.rec Q6 (fun _=>(QN Q6→Res)→Res) (fun k=>k (.a (QN.e (α:=Q5)))) (fun q k=>k (.b q)) (fun q k=>k (.c q)) (fun q k=>k (.d q)) (fun q k=>sq6 q fun p=>k (.a p))
def aCb:QN Q6→QN Q6→Bool:=@QN.rec Q6 (fun _=>QN Q6→Bool) (fun p=>@QN.rec Q6 (fun _=>Bool) true (fun _=>false) (fun _=>false) (fun _=>false) (fun _=>false) p) (fun q p=>@QN.rec Q6 (fun _=>Q6→Bool) (fun _=>false) (fun p q=>aCD q p) (fun _ _=>false) (fun _ _=>false) (fun _ _=>false) p q) (fun q p=>@QN.rec Q6 (fun _=>Q6→Bool) (fun _=>false) (fun _ _=>false) (fun p q=>aCD q p) (fun _ _=>false) (fun _ _=>false) p q) (fun q p=>@QN.rec Q6 (fun _=>Q6→Bool) (fun _=>false) (fun _ _=>false) (fun _ _=>false) (fun p q=>aCD q p) (fun _ _=>false) p q) (fun q p=>@QN.rec Q6 (fun _=>Q6→Bool) (fun _=>false) (fun _ _=>false) (fun _ _=>false) (fun _ _=>false) (fun p q=>aCD q p) p q)
def sq8:QN Q7→(QN Q7→Res)→Res:=@QN.rec Q7 (fun _=>(QN Q7→Res)→Res) (fun k=>k (.a (QN.e (α:=Q6)))) (fun q k=>k (.b q)) (fun q k=>k (.c q)) (fun q k=>k (.d q)) (fun q k=>sq7 q fun p=>k (.a p))
def aBD:QN Q7→QN Q7→Bool:=@QN.rec Q7 (fun _=>QN Q7→Bool) (fun p=>@QN.rec Q7 (fun _=>Bool) true (fun _=>false) (fun _=>false) (fun _=>false) (fun _=>false) p) (fun q p=>@QN.rec Q7 (fun _=>Q7→Bool) (fun _=>false) (fun p q=>aCb q p) (fun _ _=>false) (fun _ _=>false) (fun _ _=>false) p q) (fun q p=>@QN.rec Q7 (fun _=>Q7→Bool) (fun _=>false) (fun _ _=>false) (fun p q=>aCb q p) (fun _ _=>false) (fun _ _=>false) p q) (fun q p=>@QN.rec Q7 (fun _=>Q7→Bool) (fun _=>false) (fun _ _=>false) (fun _ _=>false) (fun p q=>aCb q p) (fun _ _=>false) p q) (fun q p=>@QN.rec Q7 (fun _=>Q7→Bool) (fun _=>false) (fun _ _=>false) (fun _ _=>false) (fun _ _=>false) (fun p q=>aCb q p) p q)
def sq9:QN Q8→(QN Q8→Res)→Res:=@QN.rec Q8 (fun _=>(QN Q8→Res)→Res) (fun k=>k (.a (QN.e (α:=Q7)))) (fun q k=>k (.b q)) (fun q k=>k (.c q)) (fun q k=>k (.d q)) (fun q k=>sq8 q fun p=>k (.a p))
def aAv:QN Q8→QN Q8→Bool:=@QN.rec Q8 (fun _=>QN Q8→Bool) (fun p=>@QN.rec Q8 (fun _=>Bool) true (fun _=>false) (fun _=>false) (fun _=>false) (fun _=>false) p) (fun q p=>@QN.rec Q8 (fun _=>Q8→Bool) (fun _=>false) (fun p q=>aBD q p) (fun _ _=>false) (fun _ _=>false) (fun _ _=>false) p q) (fun q p=>@QN.rec Q8 (fun _=>Q8→Bool) (fun _=>false) (fun _ _=>false) (fun p q=>aBD q p) (fun _ _=>false) (fun _ _=>false) p q) (fun q p=>@QN.rec Q8 (fun _=>Q8→Bool) (fun _=>false) (fun _ _=>false) (fun _ _=>false) (fun p q=>aBD q p) (fun _ _=>false) p q) (fun q p=>@QN.rec Q8 (fun _=>Q8→Bool) (fun _=>false) (fun _ _=>false) (fun _ _=>false) (fun _ _=>false) (fun p q=>aBD q p) p q)
def aJw:QN Q9→(QN Q9→Res)→Res:=@QN.rec Q9 (fun _=>(QN Q9→Res)→Res) (fun k=>k (.a (QN.e (α:=Q8)))) (fun q k=>k (.b q)) (fun q k=>k (.c q)) (fun q k=>k (.d q)) (fun q k=>sq9 q fun p=>k (.a p))
def aBL:QN Q9→QN Q9→Bool:=@QN.rec Q9 (fun _=>QN Q9→Bool) (fun p=>@QN.rec Q9 (fun _=>Bool) true (fun _=>false) (fun _=>false) (fun _=>false) (fun _=>false) p) (fun q p=>@QN.rec Q9 (fun _=>Q9→Bool) (fun _=>false) (fun p q=>aAv q p) (fun _ _=>false) (fun _ _=>false) (fun _ _=>false) p q) (fun q p=>@QN.rec Q9 (fun _=>Q9→Bool) (fun _=>false) (fun _ _=>false) (fun p q=>aAv q p) (fun _ _=>false) (fun _ _=>false) p q) (fun q p=>@QN.rec Q9 (fun _=>Q9→Bool) (fun _=>false) (fun _ _=>false) (fun _ _=>false) (fun p q=>aAv q p) (fun _ _=>false) p q) (fun q p=>@QN.rec Q9 (fun _=>Q9→Bool) (fun _=>false) (fun _ _=>false) (fun _ _=>false) (fun _ _=>false) (fun p q=>aAv q p) p q)
structure S where
 h:T O
 nx:Q
 ds:List Df
abbrev St:=T V→S→Res
abbrev Kr:=V→T O→Q→Res
abbrev Kw:=V→T O→Q→Res
abbrev Cl:=V→List V→Bool→T O→Q→Kr→Res
structure Cx where
 cl:Cl
 f:Q
 rd:Option Q
 env:List (Nat×St)
 kr:St
 ky:Kr
abbrev Xg:=T V→(V→Res)→Res
abbrev Xs:=T V→(List V→Res)→Res
abbrev Dt:=V→T V→(T V→Res)→Res
abbrev Pg:=T V→T O→(V→Res)→Res
abbrev Ag:=T V→(O→(Q→V)→Res)→Res
abbrev Wg:=T V→T O→Q→Kw→Res
abbrev Op:=Cx→St→St
structure D where
 run:Op
def gvT (q:Q) (t:T V) (k:V→Res):Res:=aIW q t k
def goT (q:Q) (t:T O) (k:O→Res):Res:=aI6 q t k
def dvT (q:Q) (v:V) (t:T V) (k:T V→Res):Res:=aIg q v t k
def doT (q:Q) (v:O) (t:T O) (k:T O→Res):Res:=aJU q v t k
def sqT (q:Q) (k:Q→Res):Res:=aJw q k
def eH:St:=fun _ _=>.bad 200
def eG:St:=fun _ _=>.bad 4
def aFy:Kr:=fun _ _ _=>.bad 201
def fN (n:Nat) (k:Nat→Res):Res:=@Nat.rec (fun _=>(Nat→Res)→Res) (fun k=>k (nat_lit 0)) (fun m _ k=>k (Nat.succ m)) n k
def gdF:Bool→Nat→Res→Res:=@Bool.rec (fun _=>Nat→Res→Res) (fun n _=>.bad n) (fun _ k=>k)
def iN:Int→(Nat→Res)→Res:=@Int.rec (fun _=>(Nat→Res)→Res) (fun m k=>k m) (fun _ _=>.bad 5)
def zT:IntKind→Nat:=@IntKind.rec (fun _=>Nat) (nat_lit 0) (nat_lit 1) (nat_lit 2) (nat_lit 3) (nat_lit 4) (nat_lit 5) (nat_lit 6) (nat_lit 7)
def aIY:IntKind→Nat:=@IntKind.rec (fun _=>Nat) (nat_lit 127) (nat_lit 32767) (nat_lit 2147483647) (nat_lit 9223372036854775807) (nat_lit 255) (nat_lit 65535) (nat_lit 4294967295) (nat_lit 18446744073709551615)
def aCd (l:Nat):Nat:=Nat.pow (nat_lit 2) (Nat.mul (nat_lit 8) l)
def lK:Bool→Bool→Bool:=@Bool.rec (fun _=>Bool→Bool) (fun _=>false) (fun b=>b)
def rA:Bool→Bool:=@Bool.rec (fun _=>Bool) true false
def aF1:Bool→Bool→Bool:=@Bool.rec (fun _=>Bool→Bool) rA (fun b=>b)
def ifF:Bool→Res→Res→Res:=@Bool.rec (fun _=>Res→Res→Res) (fun _ b=>b) (fun a _=>a)
def bF:Bool→(V→Res)→Res:=@Bool.rec (fun _=>(V→Res)→Res) (fun k=>k (.bool false)) (fun k=>k (.bool true))
def nbF:Bool→Bool→(V→Res)→Res:=@Bool.rec (fun _=>Bool→(V→Res)→Res) bF (fun t k=>bF (rA t) k)
def aFI:Bool→St→St→St:=@Bool.rec (fun _=>St→St→St) (fun _ b=>b) (fun a _=>a)
def wz (b w:Bool) (go skip:St):St:=aFI (aF1 b w) go skip
def aIB:List V→St→St:=@List.rec V (fun _=>St→St) (fun s=>s) (fun _ _ _ _=>eH)
def fI:Int→(Int→Res)→Res:=@Int.rec (fun _=>(Int→Res)→Res) (fun m k=>fN m fun m=>k (.ofNat m)) (fun m k=>fN m fun m=>k (.negSucc m))
def aFz (kd:IntKind) (n:Int):Int:=kd.wrap n
def iq (kd:IntKind) (n:Int) (k:V→Res):Res:=fI (aFz kd n) fun n=>k (.int kd n)
def tz (m:Nat) (kd:IntKind) (k:V→Res):Res :=
 @Bool.rec (fun _=>Nat→IntKind→(V→Res)→Res) (fun m kd k=>iq kd (.ofNat m) k) (fun m kd k=>k (.int kd (.ofNat m))) (Nat.ble m (aIY kd)) m kd k
def uO:Int→IntKind→(V→Res)→Res :=
 @Int.rec (fun _=>IntKind→(V→Res)→Res) (fun m kd k=>fN m fun m=>tz m kd k) (fun m kd k=>iq kd (.negSucc m) k)
def aNr (a b:Nat):Int:=.ofNat a+.negSucc b
def aKK (a:Nat) (y:Int):Int:=.negSucc a+y
def aHf:Int→Int→Int:=@Int.rec (fun _=>Int→Int) (fun a y=>@Int.rec (fun _=>Nat→Int) (fun b a=>.ofNat (Nat.add a b)) (fun b a=>aNr a b) y a) aKK
def aNp (a b:Nat):Int:=.ofNat a - .negSucc b
def aKS (a:Nat) (y:Int):Int:=.negSucc a - y
def aDL:Int→Int→Int:=@Int.rec (fun _=>Int→Int) (fun a y=>@Int.rec (fun _=>Nat→Int) (fun b a=>@Bool.rec (fun _=>Int) (.negSucc (Nat.sub (Nat.sub b a) (nat_lit 1))) (.ofNat (Nat.sub a b)) (Nat.ble b a)) (fun b a=>aNp a b) y a) aKS
def leF:Int→Int→Bool:=@Int.rec (fun _=>Int→Bool) (fun a y=>@Int.rec (fun _=>Nat→Bool) (fun b a=>Nat.ble a b) (fun _ _=>false) y a) (fun a y=>@Int.rec (fun _=>Nat→Bool) (fun _ _=>true) (fun b a=>Nat.ble b a) y a)
def ph:Int→Int→Bool:=@Int.rec (fun _=>Int→Bool) (fun a y=>@Int.rec (fun _=>Nat→Bool) (fun b a=>Nat.beq a b) (fun _ _=>false) y a) (fun a y=>@Int.rec (fun _=>Nat→Bool) (fun _ _=>false) (fun b a=>Nat.beq a b) y a)
def aA2:BinOp→IntKind→Int→Int→(V→Res)→Res :=
 @BinOp.rec (fun _=>IntKind→Int→Int→(V→Res)→Res)
  (fun kd x y k=>uO (aHf x y) kd k)
  (fun kd x y k=>uO (aDL x y) kd k)
  (fun kd x y k=>pG .mul kd x y k)
  (fun kd x y k=>pG .quo kd x y k)
  (fun kd x y k=>pG .rem kd x y k)
  (fun kd x y k=>pG .and kd x y k)
  (fun kd x y k=>pG .or kd x y k)
  (fun kd x y k=>pG .xor kd x y k)
  (fun kd x y k=>pG .shl kd x y k)
  (fun kd x y k=>pG .shr kd x y k)
  (fun kd x y k=>pG .andNot kd x y k)
  (fun _ x y k=>bF (ph x y) k)
  (fun _ x y k=>bF (rA (ph x y)) k)
  (fun _ x y k=>bF (rA (leF y x)) k)
  (fun _ x y k=>bF (leF x y) k)
  (fun _ x y k=>bF (rA (leF x y)) k)
  (fun _ x y k=>bF (leF y x) k)
def aHT (l n m j:Nat) (k:V→Res):Res:=gdF (Nat.ble (Nat.add l m) (nat_lit 4294967296)) 14 (fN (Nat.add l m) fun l'=>fN (Nat.add n (Nat.mul j (aCd l))) fun n'=>k (.str l' n'))
def aFB:BinOp→Nat→Nat→Nat→Nat→(V→Res)→Res :=
 @BinOp.rec (fun _=>Nat→Nat→Nat→Nat→(V→Res)→Res)
  aHT
  (fun _ _ _ _ _=>.bad 15) (fun _ _ _ _ _=>.bad 15) (fun _ _ _ _ _=>.bad 15) (fun _ _ _ _ _=>.bad 15) (fun _ _ _ _ _=>.bad 15) (fun _ _ _ _ _=>.bad 15) (fun _ _ _ _ _=>.bad 15) (fun _ _ _ _ _=>.bad 15) (fun _ _ _ _ _=>.bad 15) (fun _ _ _ _ _=>.bad 15)
  (fun l n m j k=>bF (lK (Nat.beq l m) (Nat.beq n j)) k)
  (fun l n m j k=>bF (rA (lK (Nat.beq l m) (Nat.beq n j))) k)
  (fun _ _ _ _ _=>.bad 15) (fun _ _ _ _ _=>.bad 15) (fun _ _ _ _ _=>.bad 15) (fun _ _ _ _ _=>.bad 15)
def jt {α:Type}:List α→(Nat→Res)→Res:=@List.rec α (fun _=>(Nat→Res)→Res) (fun k=>k (nat_lit 0)) (fun _ _ ih k=>ih fun n=>fN (Nat.succ n) k)
def qH (l m:List V) (k:List V→Res):Res:=@List.rec V (fun _=>List V→(List V→Res)→Res) (fun m k=>k m) (fun v _ ih m k=>ih m fun l'=>k (v::l')) l m k
def zd (fs args caps:List V) (k:List V→Res):Res :=
 @List.rec V (fun _=>List V→List V→(List V→Res)→Res) (fun fs args k=>@List.rec V (fun _=>List V→(List V→Res)→Res) (fun args k=>k args) (fun f fs _ args k=>qH (f::fs) args k) fs args k)
  (fun c cs _ fs args k=>qH args (c::cs) fun l=>qH fs l k) caps fs args k
def aHH:O→(Nat→T V→Res)→Res :=
 @O.rec (fun _=>(Nat→T V→Res)→Res) (fun _=>.bad 10) (fun n t _ _ _ _ k=>k n t) (fun n t k=>k n t) (fun _ _=>.bad 10) (fun _ _=>.bad 10) (fun _ _=>.bad 10) (fun _ _=>.bad 10)
def xe:O→Bool:=@O.rec (fun _=>Bool) false (fun _ _ _ _ _ _=>true) (fun _ _=>false) (fun _=>false) (fun _=>false) (fun _=>false) (fun _=>false)
def aBT:O→(List (V×V)→Res)→Res :=
 @O.rec (fun _=>(List (V×V)→Res)→Res) (fun _=>.bad 11) (fun _ _ _ _ _ _ _=>.bad 11) (fun _ _ _=>.bad 11) (fun es k=>k es) (fun es k=>k es) (fun _ _=>.bad 11) (fun _ _=>.bad 11)
def aFs:O→(List (V×V)→Res)→Res :=
 @O.rec (fun _=>(List (V×V)→Res)→Res) (fun _=>.bad 11) (fun _ _ _ _ _ _ _=>.bad 11) (fun _ _ _=>.bad 11) (fun es k=>k es) (fun _ _=>.bad 11) (fun _ _=>.bad 11) (fun _ _=>.bad 11)
def aFw (ob:O) (es:List (V×V)) (k:O→Res):Res :=
 @O.rec (fun _=>List (V×V)→(O→Res)→Res) (fun _ _=>.bad 11) (fun _ _ _ _ _ _ _ _=>.bad 11) (fun _ _ _ _=>.bad 11) (fun _ es k=>k (.map es)) (fun _ es k=>k (.mapd es)) (fun _ _ _=>.bad 11) (fun _ _ _=>.bad 11) ob es k
abbrev Lk:=Nat→Jump→Q→T V→List Q→C→C→Q→Res
def nF (ob:O) (k:Lk):Res :=
 @O.rec (fun _=>Lk→Res) (fun _=>.bad 84) (fun _ _ _ _ _ _ _=>.bad 84) (fun _ _ _=>.bad 84) (fun _ _=>.bad 84) (fun _ _=>.bad 84) (fun l k=>@Lp.rec (fun _=>Lk→Res) (fun st pend fn tm params asg body dfs k=>k st pend fn tm params asg body dfs) l k) (fun _ _=>.bad 84) ob k
def aBd (h:T O) (o:Q) (off:Nat) (o':Q) (off':Nat) (k:Bool→Res):Res :=
 @Bool.rec (fun _=>T O→Q→Nat→Q→Nat→(Bool→Res)→Res)
  (fun h o _ o' _ k=>goT o h fun x=>goT o' h fun y=>gdF (lK (xe x) (xe y)) 20 (k false))
  (fun h o off _ off' k=>@Bool.rec (fun _=>T O→Q→(Bool→Res)→Res) (fun h o k=>goT o h fun x=>gdF (xe x) 20 (k false)) (fun _ _ k=>k true) (Nat.beq off off') h o k) (aBL o o') h o off o' off' k
def ldF (h:T O) (o:Q) (off:Nat) (k:V→Res):Res :=
 goT o h fun ob=>aHH ob fun n t=>gdF (Nat.ble (Nat.succ off) n) 46 (gvT (qn off) t k)
def aCc:Nat→Nat→T V→(List V→Res)→Res :=
 @Nat.rec (fun _=>Nat→T V→(List V→Res)→Res) (fun _ _ k=>k []) (fun _ ih i t k=>gvT (qn i) t fun v=>ih (Nat.succ i) t fun l=>k (v::l))
def zx (h:T O) (o:Q) (off n:Nat) (k:List V→Res):Res :=
 goT o h fun ob=>aHH ob fun m t=>gdF (Nat.ble (Nat.add off n) m) 47 (aCc n off t k)
def pR:List V→Nat→T V→(T V→Res)→Res :=
 @List.rec V (fun _=>Nat→T V→(T V→Res)→Res) (fun _ t k=>k t) (fun v _ ih i t k=>dvT (qn i) v t fun t'=>ih (Nat.succ i) t' k)
def aBz:List V→Nat→(List V→Res)→Res :=
 @List.rec V (fun _=>Nat→(List V→Res)→Res) (fun n k=>@Nat.rec (fun _=>(List V→Res)→Res) (fun k=>k []) (fun _ _ _=>.bad 30) n k)
  (fun v _ ih n k=>@Nat.rec (fun _=>V→(Nat→(List V→Res)→Res)→(List V→Res)→Res) (fun _ _ k=>k []) (fun n _ v ih k=>ih n fun l'=>k (v::l')) n v ih k)
def aFc:List V→Nat→Nat→(List V→Res)→Res :=
 @List.rec V (fun _=>Nat→Nat→(List V→Res)→Res) (fun off n k=>@Nat.rec (fun _=>Nat→(List V→Res)→Res) (fun n k=>aBz [] n k) (fun _ _ _ _=>.bad 31) off n k)
  (fun v l ih off n k=>@Nat.rec (fun _=>List V→(Nat→Nat→(List V→Res)→Res)→Nat→(List V→Res)→Res) (fun l _ n k=>aBz l n k) (fun off _ _ ih n k=>ih off n k) off (v::l) ih n k)
def aFZ:List V→Nat→(V→Res)→Res :=
 @List.rec V (fun _=>Nat→(V→Res)→Res) (fun _ _=>.bad 1) (fun v _ ih n k=>@Nat.rec (fun _=>V→(Nat→(V→Res)→Res)→(V→Res)→Res) (fun v _ k=>k v) (fun m _ _ ih k=>ih m k) n v ih k)
def fdF:Bool→Nat→Nat→List V→(V→Res)→Res :=
 @Bool.rec (fun _=>Nat→Nat→List V→(V→Res)→Res) (fun off _ l k=>aFZ l off k) (fun off n l k=>aFc l off n fun l'=>k (.agg l'))
def aFg:List V→Nat→List V→(List V→Res)→Res :=
 @List.rec V (fun _=>Nat→List V→(List V→Res)→Res)
  (fun off new k=>@Nat.rec (fun _=>List V→(List V→Res)→Res) (fun new k=>@List.rec V (fun _=>(List V→Res)→Res) (fun k=>k []) (fun _ _ _ _=>.bad 26) new k) (fun _ _ _ _=>.bad 27) off new k)
  (fun x r ih off new k=>@Nat.rec (fun _=>V→List V→(Nat→List V→(List V→Res)→Res)→List V→(List V→Res)→Res)
   (fun x r ih new k=>@List.rec V (fun _=>V→List V→(Nat→List V→(List V→Res)→Res)→(List V→Res)→Res) (fun x r _ k=>k (x::r)) (fun v vs _ _ _ ih k=>ih (nat_lit 0) vs fun l'=>k (v::l')) new x r ih k)
   (fun off _ x _ ih new k=>ih off new fun l'=>k (x::l')) off x r ih new k)
def elF (c:Nat) (o:Q) (off len sz i:Nat) (k:V→Res):Res:=gdF (Nat.ble (Nat.succ i) len) c (fN (Nat.add off (Nat.mul i sz)) fun a=>k (.ptr o a))
def aCF (o:Q) (off cap sz lo hi:Nat) (k:V→Res):Res :=
 gdF (lK (Nat.ble lo hi) (Nat.ble hi cap)) 41 (fN (Nat.sub hi lo) fun l=>fN (Nat.sub cap lo) fun c=>ifF (Nat.beq lo cap) (k (.sl o off l c)) (fN (Nat.add off (Nat.mul lo sz)) fun a=>k (.sl o a l c)))
def aAU (o:Q) (off len sz lo hi:Nat) (k:V→Res):Res :=
 gdF (lK (Nat.ble lo hi) (Nat.ble hi len)) 43 (ifF (Nat.ble (Nat.succ lo) len) (fN (Nat.sub hi lo) fun l=>fN (Nat.add off (Nat.mul lo sz)) fun a=>k (.su o a l sz)) (ifF (Nat.beq lo (nat_lit 0)) (k (.su o off (nat_lit 0) sz)) (k .se)))
def sdF (len:Nat) (o:Q) (off:Nat) (k:V→Res):Res:=@Nat.rec (fun _=>Res) (.bad 114) (fun _ _=>k (.ptr o off)) len
def clF (len sz:Nat) (h:T O) (o:Q) (off:Nat) (k:Nat→List V→Res):Res:=@Nat.rec (fun _=>Res) (k (nat_lit 0) []) (fun m _=>zx h o off (Nat.mul (Nat.succ m) sz) fun l=>k (Nat.succ m) l) len
def byF:Nat→Nat→(List V→Res)→Res :=
 @Nat.rec (fun _=>Nat→(List V→Res)→Res) (fun _ k=>k []) (fun _ ih n k=>fN (Nat.mod n (nat_lit 256)) fun c=>fN (Nat.div n (nat_lit 256)) fun n'=>ih n' fun cs=>k (.int .u8 (.ofNat c)::cs))
def aBM:List Q→T O→(T O→Res)→Res:=@List.rec Q (fun _=>T O→(T O→Res)→Res) (fun h k=>k h) (fun q _ ih h k=>doT q .dead h fun h'=>ih h' k)
def wrS (n:Nat) (t:T V) (anc:List Q) (ty:Nat) (ex:Bool) (o:Q) (h:T O) (k:T O→Res):Res:=aBM anc h fun h'=>doT o (.row n t [] (nat_lit 0) ty ex) h' k
def wrR (n:Nat) (t:T V) (anc:List Q) (flo ty:Nat) (ex:Bool) (o:Q) (off:Nat) (vs:List V) (h:T O) (k:T O→Res):Res :=
 jt vs fun m=>gdF (Nat.ble (Nat.add off m) n) 60 (pR vs off t fun t'=>ifF (Nat.ble flo off) (doT o (.row n t' anc flo ty ex) h k) (wrS n t' anc ty ex o h k))
def aJL:O→Q→Nat→List V→T O→(T O→Res)→Res :=
 @O.rec (fun _=>Q→Nat→List V→T O→(T O→Res)→Res) (fun _ _ _ _ _=>.bad 61) wrR
  (fun _ _ _ _ _ _ _=>.bad 61) (fun _ _ _ _ _ _=>.bad 61) (fun _ _ _ _ _ _=>.bad 61) (fun _ _ _ _ _ _=>.bad 61) (fun _ _ _ _ _ _=>.bad 61)
def wrF (o:Q) (off:Nat) (vs:List V) (h:T O) (k:T O→Res):Res:=goT o h fun ob=>aJL ob o off vs h k
def uw (ty sz len m:Nat) (old new:List V) (h:T O) (nx:Q) (k:Kw):Res :=
 gdF (Nat.ble (Nat.add len m) (nat_lit 4294967296)) 112 (pR old (nat_lit 0) .nil fun t=>pR new (Nat.mul len sz) t fun t'=>fN (Nat.mul (Nat.add len m) sz) fun n=>fN (Nat.add len m) fun l=>doT nx (.row n t' [] (nat_lit 0) ty false) h fun h'=>sqT nx fun nx'=>k (.su nx (nat_lit 0) l sz) h' nx')
def apN (m ty sz:Nat) (new:List V) (h:T O) (nx:Q) (k:Kw):Res:=@Nat.rec (fun _=>Res) (k .nils h nx) (fun m _=>uw ty sz (nat_lit 0) (Nat.succ m) [] new h nx k) m
def aHU (o:Q) (off len cap ty sz m:Nat) (new:List V) (h:T O) (nx:Q) (k:Kw):Res :=
 ifF (Nat.ble (Nat.add len m) cap)
  (@Nat.rec (fun _=>Res) (k (.sl o off len cap) h nx) (fun m _=>wrF o (Nat.add off (Nat.mul len sz)) new h fun h'=>fN (Nat.add len (Nat.succ m)) fun l=>k (.sl o off l cap) h' nx) m)
  (clF len sz h o off fun _ old=>uw ty sz len m old new h nx k)
def aFf (n:Nat) (o:Q) (off len ty sz m:Nat) (new:List V) (t:T V) (anc:List Q) (ty':Nat) (h:T O) (nx:Q) (k:Kw):Res :=
 gdF (lK (Nat.beq (Nat.add off (Nat.mul len sz)) n) (lK (Nat.beq off (nat_lit 0)) (lK (Nat.beq ty ty') (Nat.ble (Nat.add len m) (nat_lit 4294967296))))) 64
  (pR new n t fun t'=>fN (Nat.add n (Nat.mul m sz)) fun n'=>fN (Nat.add len m) fun l=>doT o (.ro n t) h fun h'=>doT nx (.row n' t' (o::anc) n ty' false) h' fun h''=>sqT nx fun nx'=>k (.su nx off l sz) h'' nx')
def aFH (ob:O) (o:Q) (off len ty sz m:Nat) (new:List V) (h:T O) (nx:Q) (k:Kw):Res :=
 @O.rec (fun _=>Res) (.bad 65) (fun n t anc _ ty' _=>ifF (Nat.ble (Nat.add off (Nat.mul (Nat.add len m) sz)) n)
   (wrF o (Nat.add off (Nat.mul len sz)) new h fun h'=>fN (Nat.add len m) fun l=>k (.su o off l sz) h' nx) (aFf n o off len ty sz m new t anc ty' h nx k))
  (fun _ _=>.bad 65) (fun _=>.bad 65) (fun _=>.bad 65) (fun _=>.bad 65) (fun _=>.bad 65) ob
def aJH (m:Nat) (o:Q) (off len ty sz:Nat) (new:List V) (h:T O) (nx:Q) (k:Kw):Res :=
 @Nat.rec (fun _=>Res) (k (.su o off len sz) h nx) (fun m _=>goT o h fun ob=>aFH ob o off len ty sz (Nat.succ m) new h nx k) m
def aGk (ok:Bool) (z:V) (k:V→Res):Res:=@Bool.rec (fun _=>V→(V→Res)→Res) (fun _ _=>.bad 120) (fun z k=>k (.tup [z,.bool false])) ok z k
def aFm (ok:Bool) (v:V) (k:V→Res):Res:=@Bool.rec (fun _=>V→(V→Res)→Res) (fun v k=>k v) (fun v k=>k (.tup [v,.bool true])) ok v k
def aBi (ok:Bool) (tt:Nat) (z:V) (t:Nat) (u:V) (k:V→Res):Res:=ifF (Nat.beq t tt) (aFm ok u k) (aGk ok z k)
def vI:V→(IntKind→Int→Res)→Res :=
 @V.rec (fun _=>(IntKind→Int→Res)→Res) (fun _=>PUnit)
  (fun _=>.bad 3)
  (fun _ _=>.bad 3)
  (fun kd n k=>k kd n)
  (fun _ _ _=>.bad 3)
  (fun _=>.bad 3)
  (fun _ _ _=>.bad 3)
  (fun _=>.bad 3)
  (fun _ _ _ _ _=>.bad 3)
  (fun _ _ _ _ _=>.bad 3)
  (fun _=>.bad 3)
  (fun _=>.bad 3)
  (fun _ _=>.bad 3)
  (fun _=>.bad 3)
  (fun _ _ _ _ _ _=>.bad 3)
  (fun _ _=>.bad 3)
  (fun _=>.bad 3)
  (fun _ _ _ _=>.bad 3)
  (fun _ _ _=>.bad 3)
  (fun _ _ _=>.bad 3)
  ⟨⟩ (fun _ _ _ _=>⟨⟩)
def vB:V→(Bool→Res)→Res :=
 @V.rec (fun _=>(Bool→Res)→Res) (fun _=>PUnit)
  (fun _=>.bad 4)
  (fun b k=>k b)
  (fun _ _ _=>.bad 4)
  (fun _ _ _=>.bad 4)
  (fun _=>.bad 4)
  (fun _ _ _=>.bad 4)
  (fun _=>.bad 4)
  (fun _ _ _ _ _=>.bad 4)
  (fun _ _ _ _ _=>.bad 4)
  (fun _=>.bad 4)
  (fun _=>.bad 4)
  (fun _ _=>.bad 4)
  (fun _=>.bad 4)
  (fun _ _ _ _ _ _=>.bad 4)
  (fun _ _=>.bad 4)
  (fun _=>.bad 4)
  (fun _ _ _ _=>.bad 4)
  (fun _ _ _=>.bad 4)
  (fun _ _ _=>.bad 4)
  ⟨⟩ (fun _ _ _ _=>⟨⟩)
def vN:V→(Nat→Res)→Res :=
 @V.rec (fun _=>(Nat→Res)→Res) (fun _=>PUnit)
  (fun _=>.bad 6)
  (fun _ _=>.bad 6)
  (fun _ n k=>iN n k)
  (fun _ _ _=>.bad 6)
  (fun _=>.bad 6)
  (fun _ _ _=>.bad 6)
  (fun _=>.bad 6)
  (fun _ _ _ _ _=>.bad 6)
  (fun _ _ _ _ _=>.bad 6)
  (fun _=>.bad 6)
  (fun _=>.bad 6)
  (fun _ _=>.bad 6)
  (fun _=>.bad 6)
  (fun _ _ _ _ _ _=>.bad 6)
  (fun _ _=>.bad 6)
  (fun _=>.bad 6)
  (fun _ _ _ _=>.bad 6)
  (fun _ _ _=>.bad 6)
  (fun _ _ _=>.bad 6)
  ⟨⟩ (fun _ _ _ _=>⟨⟩)
def vP:V→(Q→Nat→Res)→Res :=
 @V.rec (fun _=>(Q→Nat→Res)→Res) (fun _=>PUnit)
  (fun _=>.bad 7)
  (fun _ _=>.bad 7)
  (fun _ _ _=>.bad 7)
  (fun _ _ _=>.bad 7)
  (fun _=>.bad 7)
  (fun o off k=>k o off)
  (fun _=>.bad 7)
  (fun _ _ _ _ _=>.bad 7)
  (fun _ _ _ _ _=>.bad 7)
  (fun _=>.bad 7)
  (fun _=>.bad 7)
  (fun _ _=>.bad 7)
  (fun _=>.bad 7)
  (fun _ _ _ _ _ _=>.bad 7)
  (fun _ _=>.bad 7)
  (fun _=>.bad 7)
  (fun _ _ _ _=>.bad 7)
  (fun _ _ _=>.bad 7)
  (fun _ _ _=>.bad 7)
  ⟨⟩ (fun _ _ _ _=>⟨⟩)
def vS:V→(Nat→Nat→Res)→Res :=
 @V.rec (fun _=>(Nat→Nat→Res)→Res) (fun _=>PUnit)
  (fun _=>.bad 8)
  (fun _ _=>.bad 8)
  (fun _ _ _=>.bad 8)
  (fun l n k=>k l n)
  (fun _=>.bad 8)
  (fun _ _ _=>.bad 8)
  (fun _=>.bad 8)
  (fun _ _ _ _ _=>.bad 8)
  (fun _ _ _ _ _=>.bad 8)
  (fun _=>.bad 8)
  (fun _=>.bad 8)
  (fun _ _=>.bad 8)
  (fun _=>.bad 8)
  (fun _ _ _ _ _ _=>.bad 8)
  (fun _ _=>.bad 8)
  (fun _=>.bad 8)
  (fun _ _ _ _=>.bad 8)
  (fun _ _ _=>.bad 8)
  (fun _ _ _=>.bad 8)
  ⟨⟩ (fun _ _ _ _=>⟨⟩)
def vA:V→(List V→Res)→Res :=
 @V.rec (fun _=>(List V→Res)→Res) (fun _=>PUnit)
  (fun _=>.bad 9)
  (fun _ _=>.bad 9)
  (fun _ _ _=>.bad 9)
  (fun _ _ _=>.bad 9)
  (fun _=>.bad 9)
  (fun _ _ _=>.bad 9)
  (fun _=>.bad 9)
  (fun _ _ _ _ _=>.bad 9)
  (fun _ _ _ _ _=>.bad 9)
  (fun _=>.bad 9)
  (fun _=>.bad 9)
  (fun _ _=>.bad 9)
  (fun _=>.bad 9)
  (fun _ _ _ _ _ _=>.bad 9)
  (fun _ _=>.bad 9)
  (fun _=>.bad 9)
  (fun _ _ _ _=>.bad 9)
  (fun vs _ k=>k vs)
  (fun _ _ _=>.bad 9)
  ⟨⟩ (fun _ _ _ _=>⟨⟩)
def vT:V→(List V→Res)→Res :=
 @V.rec (fun _=>(List V→Res)→Res) (fun _=>PUnit)
  (fun _=>.bad 55)
  (fun _ _=>.bad 55)
  (fun _ _ _=>.bad 55)
  (fun _ _ _=>.bad 55)
  (fun _=>.bad 55)
  (fun _ _ _=>.bad 55)
  (fun _=>.bad 55)
  (fun _ _ _ _ _=>.bad 55)
  (fun _ _ _ _ _=>.bad 55)
  (fun _=>.bad 55)
  (fun _=>.bad 55)
  (fun _ _=>.bad 55)
  (fun _=>.bad 55)
  (fun _ _ _ _ _ _=>.bad 55)
  (fun _ _=>.bad 55)
  (fun _=>.bad 55)
  (fun _ _ _ _=>.bad 55)
  (fun _ _ _=>.bad 55)
  (fun vs _ k=>k vs)
  ⟨⟩ (fun _ _ _ _=>⟨⟩)
def vM:V→Nat→(Q→Res)→Res→Res :=
 @V.rec (fun _=>Nat→(Q→Res)→Res→Res) (fun _=>PUnit)
  (fun c _ _=>.bad c)
  (fun _ c _ _=>.bad c)
  (fun _ _ c _ _=>.bad c)
  (fun _ _ c _ _=>.bad c)
  (fun c _ _=>.bad c)
  (fun _ _ c _ _=>.bad c)
  (fun c _ _=>.bad c)
  (fun _ _ _ _ c _ _=>.bad c)
  (fun _ _ _ _ c _ _=>.bad c)
  (fun c _ _=>.bad c)
  (fun _ _ kn=>kn)
  (fun o _ k _=>k o)
  (fun c _ _=>.bad c)
  (fun _ _ _ _ _ c _ _=>.bad c)
  (fun _ c _ _=>.bad c)
  (fun c _ _=>.bad c)
  (fun _ _ _ c _ _=>.bad c)
  (fun _ _ c _ _=>.bad c)
  (fun _ _ c _ _=>.bad c)
  ⟨⟩ (fun _ _ _ _=>⟨⟩)
def vSc:V→Nat→(Nat→Nat→Res)→Res :=
 @V.rec (fun _=>Nat→(Nat→Nat→Res)→Res) (fun _=>PUnit)
  (fun c _=>.bad c)
  (fun _ c _=>.bad c)
  (fun _ _ c _=>.bad c)
  (fun l n _ k=>k l n)
  (fun c _=>.bad c)
  (fun _ _ c _=>.bad c)
  (fun c _=>.bad c)
  (fun _ _ _ _ c _=>.bad c)
  (fun _ _ _ _ c _=>.bad c)
  (fun c _=>.bad c)
  (fun c _=>.bad c)
  (fun _ c _=>.bad c)
  (fun c _=>.bad c)
  (fun _ _ _ _ _ c _=>.bad c)
  (fun _ c _=>.bad c)
  (fun c _=>.bad c)
  (fun _ _ _ c _=>.bad c)
  (fun _ _ c _=>.bad c)
  (fun _ _ c _=>.bad c)
  ⟨⟩ (fun _ _ _ _=>⟨⟩)
def vIc:V→Nat→(IntKind→Int→Res)→Res :=
 @V.rec (fun _=>Nat→(IntKind→Int→Res)→Res) (fun _=>PUnit)
  (fun c _=>.bad c)
  (fun _ c _=>.bad c)
  (fun kd n _ k=>k kd n)
  (fun _ _ c _=>.bad c)
  (fun c _=>.bad c)
  (fun _ _ c _=>.bad c)
  (fun c _=>.bad c)
  (fun _ _ _ _ c _=>.bad c)
  (fun _ _ _ _ c _=>.bad c)
  (fun c _=>.bad c)
  (fun c _=>.bad c)
  (fun _ c _=>.bad c)
  (fun c _=>.bad c)
  (fun _ _ _ _ _ c _=>.bad c)
  (fun _ c _=>.bad c)
  (fun c _=>.bad c)
  (fun _ _ _ c _=>.bad c)
  (fun _ _ c _=>.bad c)
  (fun _ _ c _=>.bad c)
  ⟨⟩ (fun _ _ _ _=>⟨⟩)
def vPc:V→Nat→(Q→Nat→Res)→Res :=
 @V.rec (fun _=>Nat→(Q→Nat→Res)→Res) (fun _=>PUnit)
  (fun c _=>.bad c)
  (fun _ c _=>.bad c)
  (fun _ _ c _=>.bad c)
  (fun _ _ c _=>.bad c)
  (fun c _=>.bad c)
  (fun o off _ k=>k o off)
  (fun c _=>.bad c)
  (fun _ _ _ _ c _=>.bad c)
  (fun _ _ _ _ c _=>.bad c)
  (fun c _=>.bad c)
  (fun c _=>.bad c)
  (fun _ c _=>.bad c)
  (fun c _=>.bad c)
  (fun _ _ _ _ _ c _=>.bad c)
  (fun _ c _=>.bad c)
  (fun c _=>.bad c)
  (fun _ _ _ c _=>.bad c)
  (fun _ _ c _=>.bad c)
  (fun _ _ c _=>.bad c)
  ⟨⟩ (fun _ _ _ _=>⟨⟩)
def aDT:V→(Nat→Res)→Res :=
 @V.rec (fun _=>(Nat→Res)→Res) (fun _=>PUnit)
  (fun _=>.bad 39)
  (fun _ _=>.bad 39)
  (fun _ _ _=>.bad 39)
  (fun _ _ _=>.bad 39)
  (fun _=>.bad 39)
  (fun _ _ _=>.bad 39)
  (fun k=>k (nat_lit 0))
  (fun _ _ len _ k=>k len)
  (fun _ _ len _ k=>k len)
  (fun k=>k (nat_lit 0))
  (fun _=>.bad 39)
  (fun _ _=>.bad 39)
  (fun _=>.bad 39)
  (fun _ _ _ _ _ _=>.bad 39)
  (fun _ _=>.bad 39)
  (fun _=>.bad 39)
  (fun _ _ _ _=>.bad 39)
  (fun _ _ _=>.bad 39)
  (fun _ _ _=>.bad 39)
  ⟨⟩ (fun _ _ _ _=>⟨⟩)
def aFo:V→Nat→Nat→(V→Res)→Res :=
 @V.rec (fun _=>Nat→Nat→(V→Res)→Res) (fun _=>PUnit)
  (fun _ _ _=>.bad 38)
  (fun _ _ _ _=>.bad 38)
  (fun _ _ _ _ _=>.bad 38)
  (fun _ _ _ _ _=>.bad 38)
  (fun _ _ _=>.bad 38)
  (fun _ _ _ _ _=>.bad 38)
  (fun _ _ _=>.bad 38)
  (fun o off len _ sz i k=>elF (nat_lit 36) o off len sz i k)
  (fun o off len _ sz i k=>elF (nat_lit 37) o off len sz i k)
  (fun _ _ _=>.bad 38)
  (fun _ _ _=>.bad 38)
  (fun _ _ _ _=>.bad 38)
  (fun _ _ _=>.bad 38)
  (fun _ _ _ _ _ _ _ _=>.bad 38)
  (fun _ _ _ _=>.bad 38)
  (fun _ _ _=>.bad 38)
  (fun _ _ _ _ _ _=>.bad 38)
  (fun _ _ _ _ _=>.bad 38)
  (fun _ _ _ _ _=>.bad 38)
  ⟨⟩ (fun _ _ _ _=>⟨⟩)
def vCv:V→(List V→Res)→Res :=
 @V.rec (fun _=>(List V→Res)→Res) (fun _=>PUnit)
  (fun _=>.bad 111)
  (fun b k=>k [.bool b])
  (fun kd n k=>k [.int kd n])
  (fun l n k=>k [.str l n])
  (fun k=>k [.nilp])
  (fun o off k=>k [.ptr o off])
  (fun k=>k [.nils])
  (fun o off len cap k=>k [.sl o off len cap])
  (fun o off len z k=>k [.su o off len z])
  (fun k=>k [.se])
  (fun k=>k [.nilm])
  (fun o k=>k [.map o])
  (fun k=>k [.nilf])
  (fun f fs cs _ _ k=>k [.fn f fs cs])
  (fun l k=>k [.yld l])
  (fun k=>k [.nili])
  (fun t u _ k=>k [.ifc t u])
  (fun vs _ k=>k vs)
  (fun _ _ _=>.bad 110)
  ⟨⟩ (fun _ _ _ _=>⟨⟩)
def aJc:V→(V→Res)→Res :=
 @V.rec (fun _=>(V→Res)→Res) (fun _=>PUnit)
  (fun _=>.bad 48)
  (fun _ _=>.bad 48)
  (fun _ _ _=>.bad 48)
  (fun _ _ _=>.bad 48)
  (fun _=>.bad 48)
  (fun o off k=>k (.ptr o off))
  (fun _=>.bad 48)
  (fun _ _ _ _ _=>.bad 48)
  (fun _ _ _ _ _=>.bad 48)
  (fun _=>.bad 48)
  (fun _=>.bad 48)
  (fun _ _=>.bad 48)
  (fun _=>.bad 48)
  (fun f fs cs _ _ k=>k (.fn f fs cs))
  (fun l k=>k (.yld l))
  (fun _=>.bad 48)
  (fun t u _ k=>k (.ifc t u))
  (fun _ _ _=>.bad 48)
  (fun _ _ _=>.bad 48)
  ⟨⟩ (fun _ _ _ _=>⟨⟩)
def aFu:V→BinOp→IntKind→Int→(V→Res)→Res :=
 @V.rec (fun _=>BinOp→IntKind→Int→(V→Res)→Res) (fun _=>PUnit)
  (fun _ _ _ _=>.bad 17)
  (fun _ _ _ _ _=>.bad 17)
  (fun kd n op ka x k=>gdF (Nat.beq (zT ka) (zT kd)) 16 (aA2 op ka x n k))
  (fun _ _ _ _ _ _=>.bad 17)
  (fun _ _ _ _=>.bad 17)
  (fun _ _ _ _ _ _=>.bad 17)
  (fun _ _ _ _=>.bad 17)
  (fun _ _ _ _ _ _ _ _=>.bad 17)
  (fun _ _ _ _ _ _ _ _=>.bad 17)
  (fun _ _ _ _=>.bad 17)
  (fun _ _ _ _=>.bad 17)
  (fun _ _ _ _ _=>.bad 17)
  (fun _ _ _ _=>.bad 17)
  (fun _ _ _ _ _ _ _ _ _=>.bad 17)
  (fun _ _ _ _ _=>.bad 17)
  (fun _ _ _ _=>.bad 17)
  (fun _ _ _ _ _ _ _=>.bad 17)
  (fun _ _ _ _ _ _=>.bad 17)
  (fun _ _ _ _ _ _=>.bad 17)
  ⟨⟩ (fun _ _ _ _=>⟨⟩)
def aFj:V→BinOp→Nat→Nat→(V→Res)→Res :=
 @V.rec (fun _=>BinOp→Nat→Nat→(V→Res)→Res) (fun _=>PUnit)
  (fun _ _ _ _=>.bad 18)
  (fun _ _ _ _ _=>.bad 18)
  (fun _ _ _ _ _ _=>.bad 18)
  (fun l n op la na k=>aFB op la na l n k)
  (fun _ _ _ _=>.bad 18)
  (fun _ _ _ _ _ _=>.bad 18)
  (fun _ _ _ _=>.bad 18)
  (fun _ _ _ _ _ _ _ _=>.bad 18)
  (fun _ _ _ _ _ _ _ _=>.bad 18)
  (fun _ _ _ _=>.bad 18)
  (fun _ _ _ _=>.bad 18)
  (fun _ _ _ _ _=>.bad 18)
  (fun _ _ _ _=>.bad 18)
  (fun _ _ _ _ _ _ _ _ _=>.bad 18)
  (fun _ _ _ _ _=>.bad 18)
  (fun _ _ _ _=>.bad 18)
  (fun _ _ _ _ _ _ _=>.bad 18)
  (fun _ _ _ _ _ _=>.bad 18)
  (fun _ _ _ _ _ _=>.bad 18)
  ⟨⟩ (fun _ _ _ _=>⟨⟩)
def aKc:V→BinOp→V→(V→Res)→Res :=
 @V.rec (fun _=>BinOp→V→(V→Res)→Res) (fun _=>PUnit)
  (fun _ _ _=>.bad 19)
  (fun _ _ _ _=>.bad 19)
  (fun kd n op y k=>aFu y op kd n k)
  (fun l n op y k=>aFj y op l n k)
  (fun _ _ _=>.bad 19)
  (fun _ _ _ _ _=>.bad 19)
  (fun _ _ _=>.bad 19)
  (fun _ _ _ _ _ _ _=>.bad 19)
  (fun _ _ _ _ _ _ _=>.bad 19)
  (fun _ _ _=>.bad 19)
  (fun _ _ _=>.bad 19)
  (fun _ _ _ _=>.bad 19)
  (fun _ _ _=>.bad 19)
  (fun _ _ _ _ _ _ _ _=>.bad 19)
  (fun _ _ _ _=>.bad 19)
  (fun _ _ _=>.bad 19)
  (fun _ _ _ _ _ _=>.bad 19)
  (fun _ _ _ _ _=>.bad 19)
  (fun _ _ _ _ _=>.bad 19)
  ⟨⟩ (fun _ _ _ _=>⟨⟩)
def vFn:V→(Q→List V→List V→Res)→(Q→Res)→Res :=
 @V.rec (fun _=>(Q→List V→List V→Res)→(Q→Res)→Res) (fun _=>PUnit)
  (fun _ _=>.bad 85)
  (fun _ _ _=>.bad 85)
  (fun _ _ _ _=>.bad 85)
  (fun _ _ _ _=>.bad 85)
  (fun _ _=>.bad 85)
  (fun _ _ _ _=>.bad 85)
  (fun _ _=>.bad 85)
  (fun _ _ _ _ _ _=>.bad 85)
  (fun _ _ _ _ _ _=>.bad 85)
  (fun _ _=>.bad 85)
  (fun _ _=>.bad 85)
  (fun _ _ _=>.bad 85)
  (fun _ _=>.bad 85)
  (fun f fs cs _ _ k _=>k f fs cs)
  (fun l _ ky=>ky l)
  (fun _ _=>.bad 85)
  (fun _ _ _ _ _=>.bad 85)
  (fun _ _ _ _=>.bad 85)
  (fun _ _ _ _=>.bad 85)
  ⟨⟩ (fun _ _ _ _=>⟨⟩)
def u3:V→Bool→St→St→St :=
 @V.rec (fun _=>Bool→St→St→St) (fun _=>PUnit)
  (fun _ _ _=>eH)
  (fun b want go skip=>wz b want go skip)
  (fun _ _ _ _ _=>eH)
  (fun _ _ _ _ _=>eH)
  (fun _ _ _=>eH)
  (fun _ _ _ _ _=>eH)
  (fun _ _ _=>eH)
  (fun _ _ _ _ _ _ _=>eH)
  (fun _ _ _ _ _ _ _=>eH)
  (fun _ _ _=>eH)
  (fun _ _ _=>eH)
  (fun _ _ _ _=>eH)
  (fun _ _ _=>eH)
  (fun _ _ _ _ _ _ _ _=>eH)
  (fun _ _ _ _=>eH)
  (fun _ _ _=>eH)
  (fun _ _ _ _ _ _=>eH)
  (fun _ _ _ _ _=>eH)
  (fun vs _ _ _ skip=>aIB vs skip)
  ⟨⟩ (fun _ _ _ _=>⟨⟩)
def aCN:V→St→St→St :=
 @V.rec (fun _=>St→St→St) (fun _=>PUnit)
  (fun _ _=>eG)
  (fun b x y=>aFI b x y)
  (fun _ _ _ _=>eG)
  (fun _ _ _ _=>eG)
  (fun _ _=>eG)
  (fun _ _ _ _=>eG)
  (fun _ _=>eG)
  (fun _ _ _ _ _ _=>eG)
  (fun _ _ _ _ _ _=>eG)
  (fun _ _=>eG)
  (fun _ _=>eG)
  (fun _ _ _=>eG)
  (fun _ _=>eG)
  (fun _ _ _ _ _ _ _=>eG)
  (fun _ _ _=>eG)
  (fun _ _=>eG)
  (fun _ _ _ _ _=>eG)
  (fun _ _ _ _=>eG)
  (fun _ _ _ _=>eG)
  ⟨⟩ (fun _ _ _ _=>⟨⟩)
def uv:V→(Bool→Res)→Res :=
 @V.rec (fun _=>(Bool→Res)→Res) (fun _=>PUnit)
  (fun _=>.bad 21)
  (fun _ _=>.bad 21)
  (fun _ _ _=>.bad 21)
  (fun _ _ _=>.bad 21)
  (fun _=>.bad 21)
  (fun _ _ _=>.bad 21)
  (fun k=>k true)
  (fun _ _ _ _ k=>k false)
  (fun _ _ _ _ k=>k false)
  (fun k=>k false)
  (fun _=>.bad 21)
  (fun _ _=>.bad 21)
  (fun _=>.bad 21)
  (fun _ _ _ _ _ _=>.bad 21)
  (fun _ _=>.bad 21)
  (fun _=>.bad 21)
  (fun _ _ _ _=>.bad 21)
  (fun _ _ _=>.bad 21)
  (fun _ _ _=>.bad 21)
  ⟨⟩ (fun _ _ _ _=>⟨⟩)
def ue:V→(Bool→Res)→Res :=
 @V.rec (fun _=>(Bool→Res)→Res) (fun _=>PUnit)
  (fun _=>.bad 21)
  (fun _ _=>.bad 21)
  (fun _ _ _=>.bad 21)
  (fun _ _ _=>.bad 21)
  (fun _=>.bad 21)
  (fun _ _ _=>.bad 21)
  (fun _=>.bad 21)
  (fun _ _ _ _ _=>.bad 21)
  (fun _ _ _ _ _=>.bad 21)
  (fun _=>.bad 21)
  (fun k=>k true)
  (fun _ k=>k false)
  (fun _=>.bad 21)
  (fun _ _ _ _ _ _=>.bad 21)
  (fun _ _=>.bad 21)
  (fun _=>.bad 21)
  (fun _ _ _ _=>.bad 21)
  (fun _ _ _=>.bad 21)
  (fun _ _ _=>.bad 21)
  ⟨⟩ (fun _ _ _ _=>⟨⟩)
def wc:V→(Bool→Res)→Res :=
 @V.rec (fun _=>(Bool→Res)→Res) (fun _=>PUnit)
  (fun _=>.bad 21)
  (fun _ _=>.bad 21)
  (fun _ _ _=>.bad 21)
  (fun _ _ _=>.bad 21)
  (fun _=>.bad 21)
  (fun _ _ _=>.bad 21)
  (fun _=>.bad 21)
  (fun _ _ _ _ _=>.bad 21)
  (fun _ _ _ _ _=>.bad 21)
  (fun _=>.bad 21)
  (fun _=>.bad 21)
  (fun _ _=>.bad 21)
  (fun k=>k true)
  (fun _ _ _ _ _ k=>k false)
  (fun _ k=>k false)
  (fun _=>.bad 21)
  (fun _ _ _ _=>.bad 21)
  (fun _ _ _=>.bad 21)
  (fun _ _ _=>.bad 21)
  ⟨⟩ (fun _ _ _ _=>⟨⟩)
def wg:V→(Bool→Res)→Res :=
 @V.rec (fun _=>(Bool→Res)→Res) (fun _=>PUnit)
  (fun _=>.bad 21)
  (fun _ _=>.bad 21)
  (fun _ _ _=>.bad 21)
  (fun _ _ _=>.bad 21)
  (fun _=>.bad 21)
  (fun _ _ _=>.bad 21)
  (fun _=>.bad 21)
  (fun _ _ _ _ _=>.bad 21)
  (fun _ _ _ _ _=>.bad 21)
  (fun _=>.bad 21)
  (fun _=>.bad 21)
  (fun _ _=>.bad 21)
  (fun _=>.bad 21)
  (fun _ _ _ _ _ _=>.bad 21)
  (fun _ _=>.bad 21)
  (fun k=>k true)
  (fun _ _ _ k=>k false)
  (fun _ _ _=>.bad 21)
  (fun _ _ _=>.bad 21)
  ⟨⟩ (fun _ _ _ _=>⟨⟩)
def aFq:V→(Bool→Res)→Res :=
 @V.rec (fun _=>(Bool→Res)→Res) (fun _=>PUnit)
  (fun _=>.bad 23)
  (fun _ _=>.bad 23)
  (fun _ _ _=>.bad 23)
  (fun _ _ _=>.bad 23)
  (fun k=>k true)
  (fun _ _ k=>k false)
  (fun _=>.bad 23)
  (fun _ _ _ _ _=>.bad 23)
  (fun _ _ _ _ _=>.bad 23)
  (fun _=>.bad 23)
  (fun _=>.bad 23)
  (fun _ _=>.bad 23)
  (fun _=>.bad 23)
  (fun _ _ _ _ _ _=>.bad 23)
  (fun _ _=>.bad 23)
  (fun _=>.bad 23)
  (fun _ _ _ _=>.bad 23)
  (fun _ _ _=>.bad 23)
  (fun _ _ _=>.bad 23)
  ⟨⟩ (fun _ _ _ _=>⟨⟩)
def aFx:V→T O→Q→Nat→(Bool→Res)→Res :=
 @V.rec (fun _=>T O→Q→Nat→(Bool→Res)→Res) (fun _=>PUnit)
  (fun _ _ _ _=>.bad 24)
  (fun _ _ _ _ _=>.bad 24)
  (fun _ _ _ _ _ _=>.bad 24)
  (fun _ _ _ _ _ _=>.bad 24)
  (fun _ _ _ k=>k false)
  (fun o off h p a k=>aBd h p a o off k)
  (fun _ _ _ _=>.bad 24)
  (fun _ _ _ _ _ _ _ _=>.bad 24)
  (fun _ _ _ _ _ _ _ _=>.bad 24)
  (fun _ _ _ _=>.bad 24)
  (fun _ _ _ _=>.bad 24)
  (fun _ _ _ _ _=>.bad 24)
  (fun _ _ _ _=>.bad 24)
  (fun _ _ _ _ _ _ _ _ _=>.bad 24)
  (fun _ _ _ _ _=>.bad 24)
  (fun _ _ _ _=>.bad 24)
  (fun _ _ _ _ _ _ _=>.bad 24)
  (fun _ _ _ _ _ _=>.bad 24)
  (fun _ _ _ _ _ _=>.bad 24)
  ⟨⟩ (fun _ _ _ _=>⟨⟩)
def aAM:V→T O→V→(Bool→Res)→Res :=
 @V.rec (fun _=>T O→V→(Bool→Res)→Res) (fun _=>PUnit)
  (fun _ _ _=>.bad 25)
  (fun _ _ _ _=>.bad 25)
  (fun _ _ _ _ _=>.bad 25)
  (fun _ _ _ _ _=>.bad 25)
  (fun _ y k=>aFq y k)
  (fun o off h y k=>aFx y h o off k)
  (fun _ _ _=>.bad 25)
  (fun _ _ _ _ _ _ _=>.bad 25)
  (fun _ _ _ _ _ _ _=>.bad 25)
  (fun _ _ _=>.bad 25)
  (fun _ _ _=>.bad 25)
  (fun _ _ _ _=>.bad 25)
  (fun _ _ _=>.bad 25)
  (fun _ _ _ _ _ _ _ _=>.bad 25)
  (fun _ _ _ _=>.bad 25)
  (fun _ _ _=>.bad 25)
  (fun _ _ _ _ _ _=>.bad 25)
  (fun _ _ _ _ _=>.bad 25)
  (fun _ _ _ _ _=>.bad 25)
  ⟨⟩ (fun _ _ _ _=>⟨⟩)
def aJN:V→Nat→Nat→Nat→(V→Res)→Res :=
 @V.rec (fun _=>Nat→Nat→Nat→(V→Res)→Res) (fun _=>PUnit)
  (fun _ _ _ _=>.bad 45)
  (fun _ _ _ _ _=>.bad 45)
  (fun _ _ _ _ _ _=>.bad 45)
  (fun _ _ _ _ _ _=>.bad 45)
  (fun _ _ _ _=>.bad 45)
  (fun _ _ _ _ _ _=>.bad 45)
  (fun _ lo hi k=>gdF (lK (Nat.beq lo (nat_lit 0)) (Nat.beq hi (nat_lit 0))) 40 (k .nils))
  (fun o off _ cap sz lo hi k=>aCF o off cap sz lo hi k)
  (fun o off len z sz lo hi k=>gdF (Nat.beq sz z) 43 (aAU o off len sz lo hi k))
  (fun _ lo hi k=>gdF (lK (Nat.beq lo (nat_lit 0)) (Nat.beq hi (nat_lit 0))) 45 (k .se))
  (fun _ _ _ _=>.bad 45)
  (fun _ _ _ _ _=>.bad 45)
  (fun _ _ _ _=>.bad 45)
  (fun _ _ _ _ _ _ _ _ _=>.bad 45)
  (fun _ _ _ _ _=>.bad 45)
  (fun _ _ _ _=>.bad 45)
  (fun _ _ _ _ _ _ _=>.bad 45)
  (fun _ _ _ _ _ _=>.bad 45)
  (fun _ _ _ _ _ _=>.bad 45)
  ⟨⟩ (fun _ _ _ _=>⟨⟩)
def vSd:V→(V→Res)→Res :=
 @V.rec (fun _=>(V→Res)→Res) (fun _=>PUnit)
  (fun _=>.bad 114)
  (fun _ _=>.bad 114)
  (fun _ _ _=>.bad 114)
  (fun _ _ _=>.bad 114)
  (fun _=>.bad 114)
  (fun _ _ _=>.bad 114)
  (fun k=>k .nilp)
  (fun o off len _ k=>sdF len o off k)
  (fun o off len _ k=>sdF len o off k)
  (fun _=>.bad 114)
  (fun _=>.bad 114)
  (fun _ _=>.bad 114)
  (fun _=>.bad 114)
  (fun _ _ _ _ _ _=>.bad 114)
  (fun _ _=>.bad 114)
  (fun _=>.bad 114)
  (fun _ _ _ _=>.bad 114)
  (fun _ _ _=>.bad 114)
  (fun _ _ _=>.bad 114)
  ⟨⟩ (fun _ _ _ _=>⟨⟩)
def oe:V→Nat→T O→(Nat→List V→Res)→Res :=
 @V.rec (fun _=>Nat→T O→(Nat→List V→Res)→Res) (fun _=>PUnit)
  (fun _ _ _=>.bad 62)
  (fun _ _ _ _=>.bad 62)
  (fun _ _ _ _ _=>.bad 62)
  (fun l n sz _ k=>gdF (Nat.beq sz (nat_lit 1)) 62 (byF l n fun cs=>k l cs))
  (fun _ _ _=>.bad 62)
  (fun _ _ _ _ _=>.bad 62)
  (fun _ _ k=>k (nat_lit 0) [])
  (fun o off len _ sz h k=>clF len sz h o off k)
  (fun o off len _ sz h k=>clF len sz h o off k)
  (fun _ _ k=>k (nat_lit 0) [])
  (fun _ _ _=>.bad 62)
  (fun _ _ _ _=>.bad 62)
  (fun _ _ _=>.bad 62)
  (fun _ _ _ _ _ _ _ _=>.bad 62)
  (fun _ _ _ _=>.bad 62)
  (fun _ _ _=>.bad 62)
  (fun _ _ _ _ _ _=>.bad 62)
  (fun _ _ _ _ _=>.bad 62)
  (fun _ _ _ _ _=>.bad 62)
  ⟨⟩ (fun _ _ _ _=>⟨⟩)
def vAp:V→Nat→Nat→Nat→List V→T O→Q→Kw→Res :=
 @V.rec (fun _=>Nat→Nat→Nat→List V→T O→Q→Kw→Res) (fun _=>PUnit)
  (fun _ _ _ _ _ _ _=>.bad 66)
  (fun _ _ _ _ _ _ _ _=>.bad 66)
  (fun _ _ _ _ _ _ _ _ _=>.bad 66)
  (fun _ _ _ _ _ _ _ _ _=>.bad 66)
  (fun _ _ _ _ _ _ _=>.bad 66)
  (fun _ _ _ _ _ _ _ _ _=>.bad 66)
  (fun ty sz m new h nx k=>apN m ty sz new h nx k)
  (fun o off len cap ty sz m new h nx k=>aHU o off len cap ty sz m new h nx k)
  (fun o off len z ty sz m new h nx k=>gdF (Nat.beq sz z) 63 (aJH m o off len ty sz new h nx k))
  (fun _ _ _ _ _ _ _=>.bad 66)
  (fun _ _ _ _ _ _ _=>.bad 66)
  (fun _ _ _ _ _ _ _ _=>.bad 66)
  (fun _ _ _ _ _ _ _=>.bad 66)
  (fun _ _ _ _ _ _ _ _ _ _ _ _=>.bad 66)
  (fun _ _ _ _ _ _ _ _=>.bad 66)
  (fun _ _ _ _ _ _ _=>.bad 66)
  (fun _ _ _ _ _ _ _ _ _ _=>.bad 66)
  (fun _ _ _ _ _ _ _ _ _=>.bad 66)
  (fun _ _ _ _ _ _ _ _ _=>.bad 66)
  ⟨⟩ (fun _ _ _ _=>⟨⟩)
def vCp:V→Nat→List V→T O→Q→Kw→Res :=
 @V.rec (fun _=>Nat→List V→T O→Q→Kw→Res) (fun _=>PUnit)
  (fun _ _ _ _ _=>.bad 73)
  (fun _ _ _ _ _ _=>.bad 73)
  (fun _ _ _ _ _ _ _=>.bad 73)
  (fun _ _ _ _ _ _ _=>.bad 73)
  (fun _ _ _ _ _=>.bad 73)
  (fun _ _ _ _ _ _ _=>.bad 73)
  (fun _ _ _ _ _=>.bad 73)
  (fun o off _ _ n0 new h nx k=>wrF o off new h fun h'=>k (.int .i64 (.ofNat n0)) h' nx)
  (fun o off _ _ n0 new h nx k=>wrF o off new h fun h'=>k (.int .i64 (.ofNat n0)) h' nx)
  (fun _ _ _ _ _=>.bad 73)
  (fun _ _ _ _ _=>.bad 73)
  (fun _ _ _ _ _ _=>.bad 73)
  (fun _ _ _ _ _=>.bad 73)
  (fun _ _ _ _ _ _ _ _ _ _=>.bad 73)
  (fun _ _ _ _ _ _=>.bad 73)
  (fun _ _ _ _ _=>.bad 73)
  (fun _ _ _ _ _ _ _ _=>.bad 73)
  (fun _ _ _ _ _ _ _=>.bad 73)
  (fun _ _ _ _ _ _ _=>.bad 73)
  ⟨⟩ (fun _ _ _ _=>⟨⟩)
def vTa:V→Bool→Nat→V→(V→Res)→Res :=
 @V.rec (fun _=>Bool→Nat→V→(V→Res)→Res) (fun _=>PUnit)
  (fun _ _ _ _=>.bad 121)
  (fun _ _ _ _ _=>.bad 121)
  (fun _ _ _ _ _ _=>.bad 121)
  (fun _ _ _ _ _ _=>.bad 121)
  (fun _ _ _ _=>.bad 121)
  (fun _ _ _ _ _ _=>.bad 121)
  (fun _ _ _ _=>.bad 121)
  (fun _ _ _ _ _ _ _ _=>.bad 121)
  (fun _ _ _ _ _ _ _ _=>.bad 121)
  (fun _ _ _ _=>.bad 121)
  (fun _ _ _ _=>.bad 121)
  (fun _ _ _ _ _=>.bad 121)
  (fun _ _ _ _=>.bad 121)
  (fun _ _ _ _ _ _ _ _ _=>.bad 121)
  (fun _ _ _ _ _=>.bad 121)
  (fun okb _ z k=>aGk okb z k)
  (fun t u _ okb tt z k=>aBi okb tt z t u k)
  (fun _ _ _ _ _ _=>.bad 121)
  (fun _ _ _ _ _ _=>.bad 121)
  ⟨⟩ (fun _ _ _ _=>⟨⟩)
def aGN:V→(Nat→V→Res)→Res :=
 @V.rec (fun _=>(Nat→V→Res)→Res) (fun _=>PUnit)
  (fun _=>.bad 123)
  (fun _ _=>.bad 123)
  (fun _ _ _=>.bad 123)
  (fun _ _ _=>.bad 123)
  (fun _=>.bad 123)
  (fun _ _ _=>.bad 123)
  (fun _=>.bad 123)
  (fun _ _ _ _ _=>.bad 123)
  (fun _ _ _ _ _=>.bad 123)
  (fun _=>.bad 123)
  (fun _=>.bad 123)
  (fun _ _=>.bad 123)
  (fun _=>.bad 123)
  (fun _ _ _ _ _ _=>.bad 123)
  (fun _ _=>.bad 123)
  (fun _=>.bad 123)
  (fun t u _ k=>k t u)
  (fun _ _ _=>.bad 123)
  (fun _ _ _=>.bad 123)
  ⟨⟩ (fun _ _ _ _=>⟨⟩)
def xC (v:V):Xg:=fun _ k=>k v
def aIz:Xg:=fun _ _=>.bad 2
def xsN:Xs:=fun _ k=>k []
def xsA (g:Xg) (r:Xs):Xs:=fun tm k=>g tm fun v=>r tm fun l=>k (v::l)
def ptN:Dt:=fun _ t k=>k t
abbrev Bd:=T V→List V→(List V→Res)→Res
def bdN:Bd:=fun _ l k=>k l
def bdA (off n:Nat) (g:Xg) (r:Bd):Bd:=fun tm l k=>g tm fun v=>vCv v fun c=>jt c fun m=>gdF (Nat.beq m n) 28 (aFg l off c fun l'=>r tm l' k)
abbrev Og:=T V→Nat→(Nat→Res)→Res
def ogN:Og:=fun _ d k=>k d
def ogS (g:Xg):Og:=fun tm _ k=>g tm fun v=>vN v k
abbrev Sg:=T V→T V→(T V→Res)→Res
def sgN:Sg:=fun _ t k=>k t
def sgA (i sz:Nat) (g:Xg) (r:Sg):Sg:=fun tm t k=>g tm fun v=>vCv v fun c=>jt c fun m=>gdF (Nat.beq m sz) 57 (pR c (Nat.mul i sz) t fun t'=>r tm t' k)
def pMv (g:Xg):Pg:=fun tm _ k=>g tm k
def zz (c x y:Xg):Pg:=fun tm _ k=>c tm fun v=>vB v fun t=>@Bool.rec (fun _=>Xg→Xg→Xg) (fun _ y=>y) (fun x _=>x) t x y tm k
def aHV (op:BinOp) (x y:Xg):Pg:=fun tm _ k=>x tm fun a=>y tm fun b=>aKc a op b k
def m8 (w:V→(Bool→Res)→Res) (neg:Bool) (x y:Xg):Pg:=fun tm _ k=>x tm fun a=>y tm fun _=>w a fun t=>nbF neg t k
def aE4 (neg:Bool) (x y:Xg):Pg:=fun tm _ k=>x tm fun a=>y tm fun b=>vB a fun p=>vB b fun q=>nbF neg (aF1 p q) k
def aER (neg:Bool) (x y:Xg):Pg:=fun tm h k=>x tm fun a=>y tm fun b=>aAM a h b fun t=>nbF neg t k
def aHl (x:Xg):Pg:=fun tm _ k=>x tm fun v=>vB v fun t=>bF (rA t) k
def aGL (x:Xg):Pg:=fun tm _ k=>x tm fun v=>vI v fun kd n=>uO (aDL (.ofNat (nat_lit 0)) n) kd k
def aHD (kd:IntKind) (x:Xg):Pg:=fun tm _ k=>x tm fun v=>vI v fun _ n=>uO n kd k
def aGy (x:Xg):Pg:=fun tm _ k=>x tm fun v=>vS v fun l n=>k (.str l n)
def aHS (x:Xg):Pg:=fun tm _ k=>x tm fun v=>vN v fun n=>gdF (Nat.ble (Nat.succ n) (nat_lit 128)) 113 (k (.str (nat_lit 1) n))
def aGB (z:List V) (b:Bd):Pg:=fun tm _ k=>b tm z fun l=>k (.agg l)
def aG1 (x:Xg):Pg:=fun tm h k=>x tm fun v=>vP v fun o off=>ldF h o off k
def aG2 (n:Nat) (x:Xg):Pg:=fun tm h k=>x tm fun v=>vP v fun o off=>zx h o off n fun l=>k (.agg l)
def aGV (x:Xg):Pg:=fun tm _ k=>x tm fun v=>aJc v k
def pFa (off:Nat) (x:Xg):Pg:=fun tm _ k=>x tm fun v=>vP v fun o a=>fN (Nat.add a off) fun a'=>k (.ptr o a')
def pFd (agg:Bool) (off n:Nat) (x:Xg):Pg:=fun tm _ k=>x tm fun v=>vA v fun l=>fdF agg off n l k
def pIa (sz:Nat) (x i:Xg):Pg:=fun tm _ k=>x tm fun v=>i tm fun j=>vN j fun j=>aFo v sz j k
def aHJ (len sz:Nat) (x i:Xg):Pg:=fun tm _ k=>x tm fun v=>i tm fun j=>vN j fun j=>vP v fun o a=>gdF (Nat.ble (Nat.succ j) len) 49 (fN (Nat.add a (Nat.mul j sz)) fun a'=>k (.ptr o a'))
def aG7 (x i:Xg):Pg:=fun tm _ k=>x tm fun v=>i tm fun j=>vN j fun j=>vS v fun l n=>gdF (Nat.ble (Nat.succ j) l) 50 (fN (Nat.mod (Nat.div n (aCd j)) (nat_lit 256)) fun c=>k (.int .u8 (.ofNat c)))
def aHR (agg:Bool) (len sz:Nat) (x i:Xg):Pg:=fun tm _ k=>x tm fun v=>i tm fun j=>vN j fun j=>vA v fun l=>gdF (Nat.ble (Nat.succ j) len) 51 (fN (Nat.mul j sz) fun a=>fdF agg a sz l k)
def aF6 (x:Xg) (lo hi:Og):Pg:=fun tm _ k=>x tm fun v=>vS v fun l n=>lo tm (nat_lit 0) fun a=>hi tm l fun b=>gdF (lK (Nat.ble a b) (Nat.ble b l)) 52 (fN (Nat.sub b a) fun l'=>fN (Nat.mod (Nat.div n (aCd a)) (aCd (Nat.sub b a))) fun n'=>k (.str l' n'))
def aGc (sz:Nat) (x:Xg) (lo hi:Og):Pg:=fun tm _ k=>x tm fun v=>aDT v fun len=>lo tm (nat_lit 0) fun a=>hi tm len fun b=>aJN v sz a b k
def aF9 (t:Nat) (x:Xg):Pg:=fun tm _ k=>x tm fun v=>k (.ifc t v)
def aGs (f:Q) (a b:Xs):Pg:=fun tm _ k=>a tm fun l=>b tm fun m=>k (.fn f l m)
def keF:KK→T O→V→V→(Bool→Res)→Res :=
 @KK.rec (fun _=>T O→V→V→(Bool→Res)→Res)
  (fun _ x y k=>vSc x (nat_lit 35) fun l n=>vSc y (nat_lit 32) fun m j=>k (lK (Nat.beq l m) (Nat.beq n j)))
  (fun _ x y k=>vIc x (nat_lit 35) fun kd a=>vIc y (nat_lit 34) fun kd' b=>gdF (Nat.beq (zT kd) (zT kd')) 33 (k (ph a b)))
  (fun h x y k=>vPc x (nat_lit 35) fun o a=>vPc y (nat_lit 34) fun o' b=>aBd h o a o' b k)
  (fun fs h x y k=>dS (.st fs) h x y k)
abbrev Ke:=V→V→(Bool→Res)→Res
def findF:List (V×V)→Ke→V→(V→Res)→Res→Res :=
 @List.rec (V×V) (fun _=>Ke→V→(V→Res)→Res→Res) (fun _ _ _ kn=>kn)
  (fun p _ ih e x k kn=>@Prod.rec V V (fun _=>(Ke→V→(V→Res)→Res→Res)→Ke→V→(V→Res)→Res→Res) (fun y v ih e x k kn=>e x y fun b=>ifF b (k v) (ih e x k kn)) p ih e x k kn)
abbrev Ku:=List (V×V)→Nat→V→Res
abbrev Ut:=Ke→V→(V→V)→V→Nat→Ku→Res
def aD7:List (V×V)→Ut :=
 @List.rec (V×V) (fun _=>Ut) (fun _ x f z i k=>k [(x,f z)] i z)
  (fun p es ih e x f z i k=>@Prod.rec V V (fun _=>List (V×V)→Ut→Ut)
   (fun y u es ih e x f z i k=>e x y fun b=>@Bool.rec (fun _=>V→V→List (V×V)→Ut→Ut) (fun y u _ ih e x f z i k=>fN (Nat.succ i) fun i'=>ih e x f z i' fun es' j w=>k ((y,u)::es') j w) (fun _ u es _ _ x f _ i k=>k ((x,f u)::es) i u) b y u es ih e x f z i k) p es ih e x f z i k)
def kcF:KK→V→Res→Res:=@KK.rec (fun _=>V→Res→Res) (fun _ k=>k) (fun _ k=>k) (fun _ k=>k) (fun fs x k=>fU (.st fs) x k)
def aCT (ok:Bool) (z:V) (k:V→Res):Res:=@Bool.rec (fun _=>V→(V→Res)→Res) (fun z k=>k z) (fun z k=>k (.tup [z,.bool false])) ok z k
def pLk (s:KK) (ok:Bool) (z:V) (m key:Xg):Pg:=fun tm h k=>m tm fun m=>key tm fun x=>kcF s x (vM m (nat_lit 53) (fun o=>goT o h fun ob=>aBT ob fun es=>findF es (keF s h) x (fun v=>aFm ok v k) (aCT ok z k)) (aCT ok z k))
def aAQ (x:Xg):Pg:=fun tm _ k=>x tm fun v=>vS v fun l _=>k (.int .i64 (.ofNat l))
def aBk (x:Xg):Pg:=fun tm _ k=>x tm fun v=>aDT v fun l=>k (.int .i64 (.ofNat l))
def aAV (x:Xg):Pg:=fun tm h k=>x tm fun v=>vM v (nat_lit 54) (fun o=>goT o h fun ob=>aBT ob fun es=>jt es fun n=>k (.int .i64 (.ofNat n))) (k (.int .i64 (.ofNat (nat_lit 0))))
def pSd (x:Xg):Pg:=fun tm _ k=>x tm fun v=>vSd v k
def aHt (x y:Xg):Pg:=fun tm _ k=>x tm fun a=>y tm fun b=>vI a fun ka n=>vI b fun _ m=>ifF (leF m n) (k (.int ka n)) (k (.int ka m))
def pEx (i:Nat) (x:Xg):Pg:=fun tm _ k=>x tm fun v=>vT v fun l=>aFZ l i k
def pTa (ok:Bool) (t:Nat) (z:V) (x:Xg):Pg:=fun tm _ k=>x tm fun v=>vTa v ok t z k
def mb (b:PB):Pg:=fun tm h k=>pK b tm h k
def aAl (ty n:Nat) (t:T V):Ag:=fun _ k=>k (.row n t [] (nat_lit 0) ty true) fun q=>.ptr q (nat_lit 0)
def aBx (ty n:Nat) (x:Xg):Ag:=fun tm k=>x tm fun v=>vCv v fun c=>jt c fun m=>gdF (Nat.beq m n) 58 (pR c (nat_lit 0) .nil fun t=>k (.row n t [] (nat_lit 0) ty true) fun q=>.ptr q (nat_lit 0))
def aF0 (ty sz len:Nat) (t:T V) (g:Sg):Ag:=fun tm k=>g tm t fun t'=>fN (Nat.mul len sz) fun n=>k (.row n t' [] (nat_lit 0) ty true) fun q=>.sl q (nat_lit 0) len len
def aIo:Ag:=fun _ k=>k (.map []) fun q=>.map q
def aFD (b:AB):Ag:=fun tm k=>aK b tm k
def wSt (n:Nat) (x y:Xg):Wg:=fun tm h nx k=>x tm fun p=>vP p fun o off=>y tm fun v=>vCv v fun c=>jt c fun m=>gdF (Nat.beq m n) 67 (wrF o off c h fun h'=>k V.undef h' nx)
def wMu (s:KK) (m key x:Xg):Wg:=fun tm h nx k=>m tm fun m=>key tm fun kv=>x tm fun v=>kcF s kv (vM m (nat_lit 68) (fun o=>goT o h fun ob=>aBT ob fun es=>aD7 es (keF s h) kv (fun _=>v) v (nat_lit 0) fun es' _ _=>aFw ob es' fun ob'=>doT o ob' h fun h'=>k V.undef h' nx) (.bad 68))
def wMe (s:KK) (z:V) (m key:Xg):Wg:=fun tm h nx k=>m tm fun m=>key tm fun kv=>kcF s kv (vM m (nat_lit 69) (fun o=>goT o h fun ob=>aFs ob fun es=>aD7 es (keF s h) kv (fun u=>u) z (nat_lit 0) fun es' i u=>doT o (.map es') h fun h'=>k (.tup [u,.int .i64 (.ofNat i)]) h' nx) (.bad 69))
def wAp (ty sz:Nat) (x y:Xg):Wg:=fun tm h nx k=>x tm fun a=>y tm fun b=>oe b sz h fun m new=>gdF (Nat.ble m (nat_lit 16777216)) 71 (vAp a ty sz m new h nx k)
def wCp (sz:Nat) (x y:Xg):Wg:=fun tm h nx k=>x tm fun a=>y tm fun b=>aDT a fun n=>oe b sz h fun m new=>gdF (Nat.beq n m) 72 (vCp a n new h nx k)
def wSb (x:Xg):Wg:=fun tm h nx k=>x tm fun v=>vS v fun l n=>byF l n fun cs=>pR cs (nat_lit 0) .nil fun t=>doT nx (.ro l t) h fun h'=>sqT nx fun nx'=>k (.su nx (nat_lit 0) l (nat_lit 1)) h' nx'
def aCm (b:WB):Wg:=fun tm h nx k=>wK b tm h nx k
def zp (l:Q) (j:Jump) (st:Nat) (b:Bool) (ky:Kr) (s:S):Res :=
 @S.rec (fun _=>Res) (fun h nx _=>goT l h fun ob=>nF ob fun _ _ fn tm params asg body dfs=>doT l (.loop (.mk st j fn tm params asg body dfs)) h fun h'=>ky (.bool b) h' nx) s
def wo:List (Nat×St)→Nat→St→St :=
 @List.rec (Nat×St) (fun _=>Nat→St→St) (fun _ kn=>kn)
  (fun p _ ih id kn=>@Prod.rec Nat St (fun _=>(Nat→St→St)→Nat→St→St) (fun i κ ih id kn=>@Bool.rec (fun _=>St→(Nat→St→St)→Nat→St→St) (fun _ ih id kn=>ih id kn) (fun κ _ _ _=>κ) (Nat.beq i id) κ ih id kn) p ih id kn)
def aJZ:Nat→Kr→St:=fun _ _ _ _=>.bad 94
def aFd (l:Q):Nat→Kr→St:=fun id ky _ s=>zp l (.exit id) (nat_lit 2) false ky s
def aBt:Cx→Nat→St :=
 @Cx.rec (fun _=>Nat→St) fun _ _ rd env _ ky id=>wo env id (@Option.rec Q (fun _=>Nat→Kr→St) aJZ aFd rd id ky)
def aGx:Cx→St :=
 @Cx.rec (fun _=>St) fun _ _ rd _ kr ky=>@Option.rec Q (fun _=>St→Kr→St) (fun kr _=>kr) (fun l _ ky _ s=>zp l .ret (nat_lit 2) false ky s) rd kr ky
def aFp:Jump→Cx→St→St:=@Jump.rec (fun _=>Cx→St→St) (fun _ κ=>κ) (fun cx _=>aGx cx) (fun id cx _=>aBt cx id)
def jk (cx:Cx) (l:Q) (κ:St) (tm:T V) (h:T O) (nx:Q) (ds:List Df):Res :=
 goT l h fun ob=>nF ob fun st pend fn tm' params asg body dfs=>gdF (rA (Nat.beq st (nat_lit 1))) 102 (doT l (.loop (.mk (nat_lit 3) pend fn tm' params asg body dfs)) h fun h'=>aFp pend cx κ tm ⟨h',nx,ds⟩)
def rY:Cx→Cl:=@Cx.rec (fun _=>Cl) fun cl _ _ _ _ _=>cl
def rfO (g:Xg) (params:List Q) (asg body:C):Op:=fun cx κ tm s =>
 g tm fun fv=>@S.rec (fun _=>Res) (fun h nx ds=>vFn fv (fun g fs caps=>@Option.rec Q (fun _=>Res)
   (sqT nx fun n1=>qH fs (.yld n1::caps) fun args=>doT nx (.dfd false) h fun h1=>doT n1 (.loop (.mk (nat_lit 0) .none cx.f tm params asg body nx)) h1 fun h2=>sqT n1 fun n2 =>
     rY cx (.fn g [] []) args false h2 n2 fun _ h nx'=>jk cx n1 κ tm h nx' (.coll nx::ds))
   (fun l=>qH fs (.yld nx::caps) fun args=>goT l h fun ob=>nF ob fun _ _ _ _ _ _ _ dfs=>doT nx (.loop (.mk (nat_lit 0) .none cx.f tm params asg body dfs)) h fun h2=>sqT nx fun n2 =>
     rY cx (.fn g [] []) args false h2 n2 fun _ h nx'=>jk cx nx κ tm h nx' ds) cx.rd)
  (fun _=>.bad 95)) s
def opP (p:Pg) (d:Dt):Op:=fun _ κ tm s=>p tm s.h fun v=>d v tm fun tm'=>κ tm' s
def opA (a:Ag) (d:Dt):Op:=fun _ κ tm s=>@S.rec (fun _=>Ag→Dt→St→T V→Res) (fun h nx ds a d κ tm=>a tm fun ob mk=>doT nx ob h fun h'=>d (mk nx) tm fun tm'=>sqT nx fun nx'=>κ tm' ⟨h',nx',ds⟩) s a d κ tm
def opW (w:Wg) (d:Dt):Op:=fun _ κ tm s=>@S.rec (fun _=>Wg→Dt→St→T V→Res) (fun h nx ds w d κ tm=>w tm h nx fun v h' nx'=>d v tm fun tm'=>κ tm' ⟨h',nx',ds⟩) s w d κ tm
def aCS (g:Xg) (gs:Xs) (d:Dt):Op:=fun cx κ tm s=>g tm fun fv=>gs tm fun vs=>@S.rec (fun _=>Cl→V→List V→Dt→St→T V→Res) (fun h nx ds cl fv vs d κ tm=>cl fv vs false h nx fun v h' nx'=>d v tm fun tm'=>κ tm' ⟨h',nx',ds⟩) s (rY cx) fv vs d κ tm
def vc:List (Nat×Q)→Nat→(Q→Res)→Res :=
 @List.rec (Nat×Q) (fun _=>Nat→(Q→Res)→Res) (fun _ _=>.bad 122) (fun p _ ih t k=>@Prod.rec Nat Q (fun _=>(Nat→(Q→Res)→Res)→Nat→(Q→Res)→Res) (fun u f ih t k=>ifF (Nat.beq u t) (k f) (ih t k)) p ih t k)
def aFt (ms:List (Nat×Q)) (g:Xg) (gs:Xs) (d:Dt):Op:=fun cx κ tm s=>g tm fun v=>gs tm fun vs=>aGN v fun t u=>vc ms t fun f=>@S.rec (fun _=>Res) (fun h nx ds=>rY cx (.fn f [] []) (u::vs) false h nx fun v h' nx'=>d v tm fun tm'=>κ tm' ⟨h',nx',ds⟩) s
def aB6 (g:Xg) (gs:Xs) (d:Dt):Op:=fun cx κ tm s=>(match cx.rd with
 |some _=>.bad 89
 |none=>g tm fun fv=>gs tm fun vs=>(match fv with
  |.fn g fs caps=>r8 vs caps fun vs'=>r8 fs vs' fun vs'=>d V.undef tm fun tm'=>@S.rec (fun _=>Res) (fun h nx ds=>κ tm' ⟨h,nx,.call g vs'::ds⟩) s
  |_=>.bad 90))
def aA0 (k:KK) (m key:Xg) (d:Dt):Op:=fun cx κ tm s=>(match cx.rd with
 |some _=>.bad 89
 |none=>m tm fun m=>key tm fun kv=>d V.undef tm fun tm'=>@S.rec (fun _=>Res) (fun h nx ds=>κ tm' ⟨h,nx,.del k m kv::ds⟩) s)
def aCk (d:Dt):Op:=fun cx κ tm s=>(match cx.rd with
 |some _=>.bad 91
 |none=>d .nili tm fun tm'=>κ tm' s)
def opG (g:Xg) (w:Bool) (o:Op) (d:Dt):Op:=fun cx κ tm s=>g tm fun v=>u3 v w (o cx κ) (fun tm s=>d V.undef tm fun tm'=>κ tm' s) tm s
def oZ (p:Pg) (g:Xg):Op:=fun _ κ tm s=>p tm s.h fun v=>g tm fun u=>gdF (eqV v u) 93 (κ tm s)
def aa (g:Xg) (w:Bool) (o:Op):Op:=fun cx κ tm s=>g tm fun v=>u3 v w (o cx κ) κ tm s
def opI:Op:=fun _ κ=>κ
def opS (f g:Op):Op:=fun cx κ tm s=>f cx (g cx κ) tm s
def opC (x:Xg) (f g:Op):Op:=fun cx κ tm s=>x tm fun v=>aCN v (f cx κ) (g cx κ) tm s
def opB (id:Nat) (o:Op):Op:=fun cx κ=>@Cx.rec (fun _=>Nat→Op→St→St) (fun cl f rd env kr ky id o κ=>o ⟨cl,f,rd,(id,κ)::env,kr,ky⟩ κ) cx id o κ
def opL (o:Op):Op:=fun cx _=>@Nat.rec (fun _=>St) eH (fun _ again=>o cx again) (nat_lit 1000000)
def opE (id:Nat):Op:=fun cx _=>aBt cx id
def opR:Op:=fun cx _=>aGx cx
def l6:Op:=fun _ _ _ _=>.bad 210
def ac6:QN Q5→((N5 V (T5 V)→(V→Res)→Res)→D)→D:=@QN.rec Q5 (fun _=>((N5 V (T5 V)→(V→Res)→Res)→D)→D) (fun k=>k ev6) (fun _ _=>⟨l6⟩) (fun _ _=>⟨l6⟩) (fun _ _=>⟨l6⟩) (fun _ _=>⟨l6⟩)
def pc6:QN Q5→(Pv6→D)→D:=@QN.rec Q5 (fun _=>(Pv6→D)→D) (fun k=>k nv6) (fun _ _=>⟨l6⟩) (fun _ _=>⟨l6⟩) (fun _ _=>⟨l6⟩) (fun _ _=>⟨l6⟩)
def ac7:QN Q6→((N5 V (T6 V)→(V→Res)→Res)→D)→D:=@QN.rec Q6 (fun _=>((N5 V (T6 V)→(V→Res)→Res)→D)→D) (fun k=>k ev7) (fun q k=>ac6 q fun g=>k (aEM g)) (fun q k=>ac6 q fun g=>k (aE3 g)) (fun q k=>ac6 q fun g=>k (aES g)) (fun q k=>ac6 q fun g=>k (aEY g))
def pc7:QN Q6→(Pv7→D)→D:=@QN.rec Q6 (fun _=>(Pv7→D)→D) (fun k=>k nv7) (fun q k=>pc6 q fun g=>k (aDb g)) (fun q k=>pc6 q fun g=>k (aDd g)) (fun q k=>pc6 q fun g=>k (aCZ g)) (fun q k=>pc6 q fun g=>k (aDw g))
def ac8:QN Q7→((N5 V (T7 V)→(V→Res)→Res)→D)→D:=@QN.rec Q7 (fun _=>((N5 V (T7 V)→(V→Res)→Res)→D)→D) (fun k=>k ev8) (fun q k=>ac7 q fun g=>k (aE5 g)) (fun q k=>ac7 q fun g=>k (aC5 g)) (fun q k=>ac7 q fun g=>k (aDk g)) (fun q k=>ac7 q fun g=>k (aDP g))
def pc8:QN Q7→(Pv8→D)→D:=@QN.rec Q7 (fun _=>(Pv8→D)→D) (fun k=>k nv8) (fun q k=>pc7 q fun g=>k (aEU g)) (fun q k=>pc7 q fun g=>k (aDX g)) (fun q k=>pc7 q fun g=>k (aDO g)) (fun q k=>pc7 q fun g=>k (aDj g))
def ac9:QN Q8→((N5 V (T8 V)→(V→Res)→Res)→D)→D:=@QN.rec Q8 (fun _=>((N5 V (T8 V)→(V→Res)→Res)→D)→D) (fun k=>k ev9) (fun q k=>ac8 q fun g=>k (aEn g)) (fun q k=>ac8 q fun g=>k (aDu g)) (fun q k=>ac8 q fun g=>k (aEj g)) (fun q k=>ac8 q fun g=>k (aDF g))
def pc9:QN Q8→(Pv9→D)→D:=@QN.rec Q8 (fun _=>(Pv9→D)→D) (fun k=>k nv9) (fun q k=>pc8 q fun g=>k (aDC g)) (fun q k=>pc8 q fun g=>k (aEQ g)) (fun q k=>pc8 q fun g=>k (aE0 g)) (fun q k=>pc8 q fun g=>k (aEw g))
def bu:QN Q9→((N5 V (T9 V)→(V→Res)→Res)→D)→D:=@QN.rec Q9 (fun _=>((N5 V (T9 V)→(V→Res)→Res)→D)→D) (fun k=>k aHP) (fun q k=>ac9 q fun g=>k (wx g)) (fun q k=>ac9 q fun g=>k (ur g)) (fun q k=>ac9 q fun g=>k (re g)) (fun q k=>ac9 q fun g=>k (wu g))
def aHg:QN Q9→(aBG→D)→D:=@QN.rec Q9 (fun _=>(aBG→D)→D) (fun k=>k aHr) (fun q k=>pc9 q fun g=>k (uj g)) (fun q k=>pc9 q fun g=>k (wm g)) (fun q k=>pc9 q fun g=>k (rm g)) (fun q k=>pc9 q fun g=>k (vm g))
def cX:X→(Xg→D)→D:=@X.rec (fun _=>(Xg→D)→D) (fun q k=>bu q fun g=>k g) (fun v k=>k (xC v)) (fun k=>k aIz)
def cXs:List X→(Xs→D)→D:=@List.rec X (fun _=>(Xs→D)→D) (fun k=>k xsN) (fun x _ ih k=>cX x fun g=>ih fun r=>k (xsA g r))
def aJb:Option Q→(Dt→D)→D:=@Option.rec Q (fun _=>(Dt→D)→D) (fun k=>k ptN) (fun q k=>aHg q fun p=>k p)
def cOg:Option X→(Og→D)→D:=@Option.rec X (fun _=>(Og→D)→D) (fun k=>k ogN) (fun x k=>cX x fun g=>k (ogS g))
def cBd:List (Nat×Nat×X)→(Bd→D)→D:=@List.rec (Nat×Nat×X) (fun _=>(Bd→D)→D) (fun k=>k bdN)
 (fun p _ ih k=>@Prod.rec Nat (Nat×X) (fun _=>D) (fun off nx=>@Prod.rec Nat X (fun _=>D) (fun n x=>cX x fun g=>ih fun r=>k (bdA off n g r)) nx) p)
def cSg (sz:Nat):List (Nat×X)→(Sg→D)→D:=@List.rec (Nat×X) (fun _=>(Sg→D)→D) (fun k=>k sgN)
 (fun p _ ih k=>@Prod.rec Nat X (fun _=>D) (fun i x=>cX x fun g=>ih fun r=>k (sgA i sz g r)) p)
def cP:PB→(Pg→D)→D :=
 @PB.rec (fun _=>(Pg→D)→D)
  (mv:=fun x k=>cX x fun g=>k (pMv g))
  (pick:=fun c x y k=>cX c fun c=>cX x fun x=>cX y fun y=>k (zz c x y))
  (bin:=fun op x y k=>cX x fun x=>cX y fun y=>k (aHV op x y))
  (eq:=fun neg m x y k=>cX x fun x=>cX y fun y=>k (@EqM.rec (fun _=>Pg) (aER neg x y) (aE4 neg x y) (m8 uv neg x y) (m8 ue neg x y) (m8 wc neg x y) (m8 wg neg x y) m))
  (not:=fun x k=>cX x fun g=>k (aHl g))
  (neg:=fun x k=>cX x fun g=>k (aGL g))
  (cvi:=fun kd x k=>cX x fun g=>k (aHD kd g))
  (cvs:=fun x k=>cX x fun g=>k (aGy g))
  (cis:=fun x k=>cX x fun g=>k (aHS g))
  (ctu:=fun x k=>k (mb (.ctu x)))
  (cfu:=fun ty n x k=>k (mb (.cfu ty n x)))
  (bld:=fun z ps k=>cBd ps fun b=>k (aGB z b))
  (ld1:=fun x k=>cX x fun g=>k (aG1 g))
  (ldn:=fun n x k=>cX x fun g=>k (aG2 n g))
  (nck:=fun x k=>cX x fun g=>k (aGV g))
  (fa:=fun off x k=>cX x fun g=>k (pFa off g))
  (fd:=fun agg off n x k=>cX x fun g=>k (pFd agg off n g))
  (ia:=fun sz x i k=>cX x fun x=>cX i fun i=>k (pIa sz x i))
  (iaa:=fun len sz x i k=>cX x fun x=>cX i fun i=>k (aHJ len sz x i))
  (ixs:=fun x i k=>cX x fun x=>cX i fun i=>k (aG7 x i))
  (ixa:=fun agg len sz x i k=>cX x fun x=>cX i fun i=>k (aHR agg len sz x i))
  (slS:=fun x lo hi k=>cX x fun x=>cOg lo fun lo=>cOg hi fun hi=>k (aF6 x lo hi))
  (slL:=fun sz x lo hi mx k=>@Option.rec X (fun _=>D) (cX x fun x=>cOg lo fun lo=>cOg hi fun hi=>k (aGc sz x lo hi)) (fun m=>k (mb (.slL sz x lo hi (some m)))) mx)
  (mki:=fun t x k=>cX x fun g=>k (aF9 t g))
  (mkf:=fun f fs caps k=>cXs fs fun a=>cXs caps fun b=>k (aGs f a b))
  (lk:=fun s ok z m key k=>cX m fun m=>cX key fun key=>k (pLk s ok z m key))
  (lenS:=fun x k=>cX x fun g=>k (aAQ g))
  (lenL:=fun x k=>cX x fun g=>k (aBk g))
  (lenM:=fun x k=>cX x fun g=>k (aAV g))
  (sd:=fun x k=>cX x fun g=>k (pSd g))
  (max:=fun x y k=>cX x fun x=>cX y fun y=>k (aHt x y))
  (ex:=fun i x k=>cX x fun g=>k (pEx i g))
  (ta:=fun ok t z x k=>cX x fun g=>k (pTa ok t z g))
  (bad:=fun k=>k (mb .bad))
def cA:AB→(Ag→D)→D :=
 @AB.rec (fun _=>(Ag→D)→D)
  (al:=fun ty n t k=>k (aAl ty n t))
  (bx:=fun ty n x k=>cX x fun g=>k (aBx ty n g))
  (bsl:=fun ty sz len t ps k=>cSg sz ps fun g=>k (aF0 ty sz len t g))
  (mkm:=fun k=>k aIo)
  (mks:=fun ty sz z len cap k=>k (aFD (.mks ty sz z len cap)))
def cW:WB→(Wg→D)→D :=
 @WB.rec (fun _=>(Wg→D)→D)
  (st:=fun n x y k=>cX x fun x=>cX y fun y=>k (wSt n x y))
  (mu:=fun s m x v k=>cX m fun m=>cX x fun x=>cX v fun v=>k (wMu s m x v))
  (me:=fun s z m x k=>cX m fun m=>cX x fun x=>k (wMe s z m x))
  (es:=fun m s v k=>k (aCm (.es m s v)))
  (ap:=fun ty sz x y k=>cX x fun x=>cX y fun y=>k (wAp ty sz x y))
  (cp:=fun sz x y k=>cX x fun x=>cX y fun y=>k (wCp sz x y))
  (sb:=fun x k=>cX x fun g=>k (wSb g))
  (us:=fun ty x n k=>k (aCm (.us ty x n)))
def cOB:OB→Dt→(Op→D)→D :=
 @OB.rec (fun _=>Dt→(Op→D)→D)
  (p:=fun b d k=>cP b fun p=>k (opP p d))
  (a:=fun b d k=>cA b fun a=>k (opA a d))
  (w:=fun b d k=>cW b fun w=>k (opW w d))
  (call:=fun x args d k=>cX x fun g=>cXs args fun gs=>k (aCS g gs d))
  (inv:=fun ms x args d k=>cX x fun g=>cXs args fun gs=>k (aFt ms g gs d))
  (dfr:=fun x args d k=>cX x fun g=>cXs args fun gs=>k (aB6 g gs d))
  (dfd:=fun s m key d k=>cX m fun m=>cX key fun key=>k (aA0 s m key d))
  (rcv:=fun d k=>k (aCk d))
def cCO:CO→(Op→D)→D :=
 @CO.rec (fun _=>(Op→D)→D) fun dst g b k=>aJb dst fun d=>cOB b d fun o=>@Option.rec (Q×Bool) (fun _=>D) (k o) (fun qw=>@Prod.rec Q Bool (fun _=>D) (fun q w=>bu q fun g=>k (opG g w o d)) qw) g
def cPS:PS→(Op→D)→D :=
 @PS.rec (fun _=>(Op→D)→D) (fun o k=>cCO o k)
  (fun g p q k=>cP p fun p=>bu q fun r=>@Option.rec (Q×Bool) (fun _=>D) (k (oZ p r)) (fun qw=>@Prod.rec Q Bool (fun _=>D) (fun q w=>bu q fun g=>k (aa g w (oZ p r))) qw) g)
def cL:List PS→(Op→D)→D :=
 @List.rec PS (fun _=>(Op→D)→D) (fun k=>k opI) (fun p _ ih k=>cPS p fun o=>ih fun r=>k (opS o r))
def cC:C→(Op→D)→D :=
 @C.rec (fun _=>(Op→D)→D)
  (skip:=fun k=>k opI)
  (reg:=fun l k=>cL l k)
  (seq:=fun _ _ iha ihb k=>iha fun a=>ihb fun b=>k (opS a b))
  (cond:=fun x _ _ iha ihb k=>cX x fun g=>iha fun a=>ihb fun b=>k (opC g a b))
  (block:=fun id _ ih k=>ih fun o=>k (opB id o))
  (loop:=fun _ ih k=>ih fun o=>k (opL o))
  (rf:=fun x params asg body _ _ k=>cX x fun g=>k (rfO g params asg body))
  (exit:=fun id k=>k (opE id))
  (scope:=fun _ ih k=>ih k)
  (ret:=fun k=>k opR)
  (bad:=fun k=>k l6)
def mkD (c:C):D:=cC c D.mk
def ly:D→Op:=@D.rec (fun _=>Op) fun o=>o
def ze:List RV→T V→T O→(List V→Res)→Res :=
 @List.rec RV (fun _=>T V→T O→(List V→Res)→Res) (fun _ _ k=>k [])
  (fun r _ ih tm h k=>@RV.rec (fun _=>(T V→T O→(List V→Res)→Res)→T V→T O→(List V→Res)→Res)
   (fun q ih tm h k=>gvT q tm fun v=>ih tm h fun l=>k (v::l))
   (fun agg n q ih tm h k=>gvT q tm fun p=>vP p fun o off=>@Bool.rec (fun _=>Res) (ldF h o off fun v=>ih tm h fun l'=>k (v::l')) (zx h o off n fun l=>ih tm h fun l'=>k (.agg l::l')) agg) r ih tm h k)
def aHM:List V→(V→Res)→Res :=
 @List.rec V (fun _=>(V→Res)→Res) (fun k=>k (.tup [])) (fun v r _ k=>@List.rec V (fun _=>V→(V→Res)→Res) (fun v k=>k v) (fun u r _ v k=>k (.tup (v::u::r))) r v k)
abbrev Kn:=T O→Q→Res
def aAH (q:Q) (ih:Kn) (h:T O) (nx:Q):Res:=gO q h fun ob=>(match ob with
 |.dfd false=>pO (.dfd true) q h fun h'=>ih h' nx
 |_=>.bad 97)
def aHo (s:KK) (m key:V) (ih:Kn) (h:T O) (nx:Q):Res:=fU s key (match m with
 |.map o=>gO o h fun ob=>pP ob fun es=>aj s h key es fun es'=>pO (.mapd es') o h fun h'=>ih h' nx
 |_=>.bad 97)
def aAS:List Df→Cl→List RV→Kr→T V→Kn :=
 @List.rec Df (fun _=>Cl→List RV→Kr→T V→Kn) (fun _ rs kret tm h nx=>ze rs tm h fun vs=>aHM vs fun v=>kret v h nx)
  (fun d _ ih cl rs kret tm h nx=>@Df.rec (fun _=>Cl→Kn→T O→Q→Res)
   (fun g args cl ih h nx=>cl (.fn g [] []) args true h nx fun _ h' nx'=>ih h' nx')
   (fun q _ ih h nx=>aAH q ih h nx)
   (fun s m key _ ih h nx=>aHo s m key ih h nx) d cl (ih cl rs kret tm) h nx)
def nq (cl:Cl) (rs:List RV) (kret:Kr):St:=fun tm s=>@S.rec (fun _=>Cl→List RV→Kr→T V→Res) (fun h nx ds cl rs kret tm=>aAS ds cl rs kret tm h nx) s cl rs kret tm
def x9:List V→Nat→T V→(T V→Res)→Res :=
 @List.rec V (fun _=>Nat→T V→(T V→Res)→Res) (fun _ t k=>k t) (fun v _ ih i t k=>dvT (qn i) v t fun t'=>ih (Nat.succ i) t' k)
def ew (o:Op) (cl:Cl) (f:Q) (tm:T V) (h:T O) (nx:Q) (kr:St):Res:=o ⟨cl,f,none,[],kr,aFy⟩ kr tm ⟨h,nx,[]⟩
def cfF:CF→Cl→Q→List V→Bool→T O→Q→Kr→Res :=
 @CF.rec (fun _=>Cl→Q→List V→Bool→T O→Q→Kr→Res) (fun _ _ _ _ _ _ _=>.bad 83)
  (fun body rs cl f args _ h nx kret=>x9 args (nat_lit 0) .nil fun tm=>ew (ly (mkD body)) cl f tm h nx (nq cl rs kret))
  (fun n _ _ args dk h nx kret=>@Bool.rec (fun _=>Res) (eg n args fun v=>kret v h nx) (.bad 78) dk)
def aHj:List Q→List V→T V→(T V→Res)→Res :=
 @List.rec Q (fun _=>List V→T V→(T V→Res)→Res) (fun vs t k=>@List.rec V (fun _=>T V→(T V→Res)→Res) (fun t k=>k t) (fun _ _ _ _ _=>.bad 82) vs t k)
  (fun q _ ih vs t k=>@List.rec V (fun _=>Q→(List V→T V→(T V→Res)→Res)→T V→(T V→Res)→Res) (fun _ _ _ _=>.bad 82) (fun v vs _ q ih t k=>dvT q v t fun t'=>ih vs t' k) vs q ih t k)
def aFK (cl:Cl) (l fn:Q) (body:C) (kret:Kr):St:=fun tm s=>@S.rec (fun _=>Res) (fun h nx ds=>goT l h fun ob=>nF ob fun st pend fn' tm' params asg body' dfs=>gdF (Nat.beq st (nat_lit 0)) 104 (doT l (.loop (.mk (nat_lit 1) pend fn' tm' params asg body' dfs)) h fun h' =>
 ly (mkD body) ⟨cl,fn,some l,[],eH,kret⟩ (fun _ s=>zp l .none (nat_lit 0) true kret s) tm ⟨h',nx,ds⟩)) s
def pf (cl:Cl) (l:Q) (args:List V) (h:T O) (nx:Q) (kret:Kr):Res :=
 goT l h fun ob=>nF ob fun _ _ fn tm params asg body _=>aHj params args tm fun tm' =>
  ly (mkD asg) ⟨cl,fn,some l,[],eH,kret⟩ (aFK cl l fn body kret) tm' ⟨h,nx,[]⟩
def aJE (fe:Q→CF) (cl:Cl):Cl:=fun fv args dk h nx kret =>
 vFn fv (fun f fs caps=>zd fs args caps fun l=>cfF (fe f) cl f l dk h nx kret)
  (fun l=>@Bool.rec (fun _=>Cl→Q→List V→T O→Q→Kr→Res) pf (fun _ _ _ _ _ _=>.bad 202) dk cl l args h nx kret)
def my (fe:Q→CF) (n:Nat):Cl:=@Nat.rec (fun _=>Cl) (fun _ _ _ _ _ _=>.bad 203) (fun _ cl=>aJE fe cl) n
def runF (fe:Q→CF) (n:Nat) (f:Q) (args:List V) (nx:Q):Res:=my fe n (.fn f [] []) args false .nil nx fun v h _=>.ok (fin v h)
end Go.CM
end
