import Derived.Test.YtdkkaldimefljaaGreatDoorA04
import Derived.Laws.Strings2
import Derived.MapKept
set_option linter.all false
section
namespace Go.AM
variable {P:Program} {ans:FuncId→Ann} {an:Ann} {w:World} {B0:Nat} {Ψ:HT} {ρ:List Nat} {ow:Own} {tmps:Array Value} {R:Type} {r:R}
variable {tm:List Slot} {rs:RS} {m:Machine} {mk mp:Value→World→Machine} {kp:AVal→RS→Option R} {k:Slot→RS→Option R} {ds:List Deferred}
variable {drawn prot tk:Bool} {lcl:List Nat} {cf:aO} {dst:Option Nat} {ty:TypeId} {pos:String} {aft:Array Edge} {gd:Option (Nat×Bool)}
theorem m2 (h:Rel P ans B0 w Ψ ρ ow an (sl an tm rs) tmps rs.sto.objs) {x:Option Operand} {d:Int} {k:Int→Option R} (e:jN an.keep tm rs x d k=some r) :
  ∃ n,k n=some r∧((x=none∧n=d)∨∃ y kd,x=some y∧ev tmps ds y=.int kd n):=by
 cases x with
 |none=>exact ⟨d,e,.inl ⟨rfl,rfl⟩⟩
 |some y =>
  obtain ⟨tx,hsx,_⟩:=bH (ds:=ds) h y;obtain ⟨kd,n,e,hv⟩:=eM hsx e;exact ⟨n,e,.inr ⟨y,kd,rfl,hv⟩⟩
theorem iZ {isS:Bool} {len cap:Nat} {lo hi:Option Operand} {l h:Int} (hl:(lo=none∧l=0)∨∃ y kd,lo=some y∧ev tmps ds y=.int kd l) (hh:(hi=none∧h=len)∨∃ y kd,hi=some y∧ev tmps ds y=.int kd h)
  (h0:0≤l) (h1:l≤h) (h2:h≤len) (h3:len≤cap):(Instr.sliceBounds isS len cap (lo.map (ev tmps ds)) (hi.map (ev tmps ds)) none).run P w=.ok (l.toNat,h.toNat,cap) w:=by
 have eh:(h.toNat:Int)=h:=Int.toNat_of_nonneg (by omega);have h4:h≤(cap:Int):=by omega
 rcases hl with ⟨rfl,rfl⟩|⟨y,kd,rfl,hy⟩ <;> rcases hh with ⟨rfl,rfl⟩|⟨z,kd',rfl,hz⟩
 ·simp [Instr.sliceBounds]
 ·simp [Instr.sliceBounds,hz,run_sliceBound,h4,show 0≤h by omega]
 ·simp [Instr.sliceBounds,hy,run_sliceBound,h0,h1]
 ·simp [Instr.sliceBounds,hy,hz,run_sliceBound,h0,h4,eh,h1,show 0≤h by omega]
theorem mB {len cap:Nat} {lo:Option Operand} {l h:Int} {z u:Operand} {kz ku:IntKind} (hl:(lo=none∧l=0)∨∃ y kd,lo=some y∧ev tmps ds y=.int kd l) (hz:ev tmps ds z=.int kz h) (hu:ev tmps ds u=.int ku h)
  (h0:0≤l) (h1:l≤h) (h2:h≤len) (h3:len≤cap):(Instr.sliceBounds true len cap (lo.map (ev tmps ds)) (some (ev tmps ds z)) (some (ev tmps ds u))).run P w=.ok (l.toNat,h.toNat,h.toNat) w:=by
 have eh:(h.toNat:Int)=h:=Int.toNat_of_nonneg (by omega);have h4:h≤(cap:Int):=by omega
 rcases hl with ⟨rfl,rfl⟩|⟨y,kd,rfl,hy⟩
 ·simp [Instr.sliceBounds,hz,hu,run_sliceBound,h4,show 0≤h by omega,eh]
 ·simp [Instr.sliceBounds,hy,hz,hu,run_sliceBound,h0,h4,eh,h1,show 0≤h by omega]
theorem VRel.cut {ρ':List Nat} {xs:List AVal} {a:Option Addr} {len cap sz l h:Nat} (hx:VRel Ψ ρ (.slice xs) (.slice a len cap)) (h1:l≤h) (h2:h≤xs.length) (hd:qx sz ((xs.take h).drop l)=true) (M:Nat) (hM:h≤M) :
  VRel Ψ ρ' (.slice ((xs.take h).drop l)) (.slice (if M=l then a else a.map (·.add (l * sz))) (h - l) (M - l)):=by
 cases hx with
 |slice _ _ _ _ s hl hc hx =>
  refine .slice _ _ _ _ s (by simp;omega) (by omega) fun i x hi=>?_
  have hlen:i < ((xs.take h).drop l).length:=(List.getElem?_eq_some_iff.1 hi).1;simp only[List.length_drop,List.length_take] at hlen;rw[List.getElem?_drop,List.getElem?_take,if_pos (by omega)] at hi;obtain ⟨g1,b,o,rfl,g2⟩:=hx (l+i) x hi
  have hss:s=sz:=by
   have hl0:l < xs.length:=by omega
   obtain ⟨g3,_⟩:=hx l xs[l] (by simp [hl0])
   have hcons:(xs.take h).drop l=xs[l]::(xs.take h).drop (l+1):=by
    rw[List.drop_eq_getElem_cons (by simp;omega)];simp
   rw[hcons] at hd;rw[←g3];exact Nat.eq_of_beq_eq_true hd
  subst hss;refine ⟨g1,b,o+l * s,?_,fun j c hj=>?_⟩
  ·rw[if_neg (by omega)]
   simp [cD]
  ·have:=g2 j c hj
   rw[show o+l * s+i * s+j=o+(l+i) * s+j by rw[Nat.add_mul];omega];exact this
theorem aAJ (h:Rel P ans B0 w Ψ ρ ow an (sl an tm rs) tmps rs.sto.objs) {t:TypeId} {x:Operand} {lo hi mx:Option Operand} (X:Ex P tmps ds w ⟨dst,.slice t x lo hi mx,ty,pos,aft,gd⟩ m mk) (e:aB P ans an drawn prot lcl cf tm tk ⟨dst,.slice t x lo hi mx,ty,pos,aft,gd⟩ rs kp k=some r):Goal P ans an w B0 Ψ ρ ow tmps tm rs dst m mk mp kp k r:=by
 simp only[aB] at e;obtain ⟨tx,hsx,_⟩:=bH (ds:=ds) h x
 split at e
 ·rename_i hu
  split at e
  ·rename_i s hx
   obtain ⟨l,e,hl⟩:=m2 (ds:=ds) h e;obtain ⟨hh,e,hhi⟩:=m2 (ds:=ds) h e;obtain ⟨hg,e⟩:=aA e;simp only[Bool.and_eq_true,decide_eq_true_eq] at hg;rw[hx] at hsx;generalize hgx:(⟨tmps,ds⟩:Act).eval x=vx at hsx;cases hsx with
   |val _ _ hv=>cases hv with
    |str =>
     have hb:=iZ (P:=P) (w:=w) (isS:=false) (len:=s.length) (cap:=s.length) hl hhi hg.1.1 hg.1.2 hg.2 (Nat.le_refl _);have hsz:(⟨⟨s⟩⟩:ByteArray).size=s.length:=rfl
     have hex:(⟨⟨s⟩⟩:ByteArray).extract l.toNat hh.toNat=⟨⟨(s.take hh.toNat).drop l.toNat⟩⟩:=by
      have:=ByteArray.extract_mk s l.toNat hh.toNat
      rw[show (⟨⟨s⟩⟩:ByteArray)=ByteArray.mk s.toArray from rfl,this,List.drop_take]
     exact .val h e (.str _) (X.val _ _ (by simp [execOp,ev,hgx,Instr.sliceAt,Instr.slice,run_underlying hu,hsz];simp [ev] at hb;simp [hb,hex]))
  ·cases e
 ·rename_i el hu
  obtain ⟨sz,hsz,e⟩:=aC e;obtain ⟨xs,e,hxs⟩:=sO hsx e;obtain ⟨l,e,hl⟩:=m2 (ds:=ds) h e;obtain ⟨hh,e,hhi⟩:=m2 (ds:=ds) h e;have hcut:=hxs;generalize hgx:(⟨tmps,ds⟩:Act).eval x=vx at hxs hcut;cases hxs with
  |slice _ a len cap s' hlen hc hx =>
   rw[hlen] at hhi;cases mx with
   |none =>
    simp only[e8] at e;obtain ⟨hg,e⟩:=aA e;simp only[Bool.and_eq_true,decide_eq_true_eq] at hg;obtain ⟨⟨⟨g1,g2⟩,g3⟩,g4⟩:=hg;rw[hlen] at g3;have hb:=iZ (P:=P) (w:=w) (isS:=true) (len:=len) (cap:=cap) hl hhi g1 g2 g3 hc;refine .val h e (hcut.cut (ρ':=ρ) (sz:=sz) (by omega) (by omega) g4 cap (by omega)) (X.val _ _ ?_);simp only[ev] at hb;simp [execOp,ev,hgx,Instr.sliceAt,Instr.slice,run_underlying hu,hb,run_sizeOf hsz]
   |some u =>
    simp only at e;obtain ⟨tu,hsu,_⟩:=bH (ds:=ds) h u;obtain ⟨ku,mm,e,hum⟩:=eM hsu e;obtain ⟨hmm,e⟩:=aA e;have hmm:mm=hh:=by simpa using hmm
    subst hmm;rcases hhi with ⟨rfl,_⟩|⟨z,kz,rfl,hz⟩
    ·cases e
    ·simp only[e8] at e
     obtain ⟨hg,e⟩:=aA e;simp only[Bool.and_eq_true,decide_eq_true_eq] at hg;obtain ⟨⟨⟨g1,g2⟩,g3⟩,g4⟩:=hg;rw[hlen] at g3;have hb:=mB (P:=P) (w:=w) (len:=len) (cap:=cap) hl hz hum g1 g2 g3 hc;refine .plain h e (.full _ _ _ (hcut.cut (ρ':=[]) (sz:=sz) (by omega) (by omega) g4 mm.toNat (Nat.le_refl _))) (fun _ _ e=>by cases e) (fun _ e=>by cases e) (X.val _ _ ?_);simp only[ev] at hb;simp [execOp,ev,hgx,Instr.sliceAt,Instr.slice,run_underlying hu,hb,run_sizeOf hsz]
 ·cases e
theorem sG {t:TypeId} {x:AVal} (h:keyT P t x=true):isKey x=true∧∃ d,P.underlying t=some d∧((∃ kd k n,d=.int kd∧x=.int k n)∨∃ s,d=.string∧x=.str s):=by
 unfold keyT at h
 split at h
 ·rename_i hu;exact ⟨rfl,_,hu,.inl ⟨_,_,_,rfl,rfl⟩⟩
 ·rename_i hu;exact ⟨rfl,_,hu,.inr ⟨_,rfl,rfl⟩⟩
 ·cases h
theorem pw {x:AVal} (h:isKey x=true):flat x=true:=by cases x <;> simp_all [isKey,flat]
theorem run_checkKey {t:TypeId} {x:AVal} {v:Value} (h:keyT P t x=true) (hv:VRel Ψ ρ x v) (b:Bool) (n:Nat):(Instr.checkKey b (n+1) t v).run P w=.ok () w:=by
 obtain ⟨_,d,hu,hd⟩:=sG h;rcases hd with ⟨kd,k,n,rfl,rfl⟩|⟨s,rfl,rfl⟩
 ·cases hv;simp [Instr.checkKey,run_underlying hu]
 ·cases hv;simp [Instr.checkKey,run_underlying hu]
theorem bytes_beq (a b:List UInt8):((⟨⟨a⟩⟩:ByteArray)==⟨⟨b⟩⟩)=(a==b):=by
 show ((⟨a⟩:Array UInt8)==⟨b⟩)=(a==b)
 simp
theorem uK {t:TypeId} {d:TypeDesc} {x y:AVal} {vx vy:Value} (h:keyT P t x=true) (hu:P.underlying t=some d) (hx:VRel Ψ ρ x vx) (hy:VRel Ψ [] y vy) {b:Bool} (e:dS x y=some b) :
  Instr.sameNow d vx vy=some b∧(b=true→Instr.sameBits 10000 vy vx=true):=by
 obtain ⟨_,d',hu',hd⟩:=sG h;obtain rfl:d=d':=by rw[hu] at hu';exact Option.some.inj hu'
 rcases hd with ⟨kd,k,n,rfl,rfl⟩|⟨s,rfl,rfl⟩
 ·cases hx
  cases hy with
  |int k' n' =>
   simp only[dS] at e
   split at e
   ·subst_vars
    cases e;refine ⟨by simp [Instr.sameNow],fun hb=>?_⟩
    have:n=n':=by simpa using hb
    simp [Instr.sameBits,this]
   ·cases e
  |_=>simp [dS] at e
 ·cases hx
  cases hy with
  |str s' =>
   simp only[dS,Option.some.injEq] at e;subst e;refine ⟨by simp only[Instr.sameNow,bytes_beq],fun hb=>?_⟩
   have:s=s':=by simpa using hb
   subst this;show ((⟨⟨s⟩⟩:ByteArray)==⟨⟨s⟩⟩)=true;rw[bytes_beq];simp
  |_=>simp [dS] at e
theorem mapRel.tail {p:AVal×AVal} {es:List (AVal×AVal)} {e:MapEntry} {ents:List MapEntry} (h:mapRel Ψ (p::es) (e::ents)):mapRel Ψ es ents :=
 ⟨by simpa using h.1,fun i p' e' h1 h2=>h.2 (i+1) p' e' (by simpa using h1) (by simpa using h2)⟩
theorem kG {t:TypeId} {d:TypeDesc} {x:AVal} {vx:Value} (h:keyT P t x=true) (hu:P.underlying t=some d) (hx:VRel Ψ ρ x vx):∀ {es:List (AVal×AVal)} {ents:List MapEntry} {i:Nat} {o:Option AVal},mapRel Ψ es ents→fW x es=some o →
  match o with
  |none=>Instr.findNow d vx ents i=some none
  |some v=>∃ j u,Instr.findNow d vx ents i=some (some (j,u))∧VRel Ψ [] v u
 |[],ents,i,o,hm,e=>by
  have:ents=[]:=List.length_eq_zero_iff.1 (by simpa using hm.1.symm)
  subst this;simp [fW] at e;subst e;rfl
 |(ky,v)::es,[],i,o,hm,e=>by simp [mapRel] at hm
 |(ky,v)::es,en::ents,i,o,hm,e=>by
  simp only[fW] at e;obtain ⟨b,hb,e⟩:=aC e;obtain ⟨g1,g2,g3⟩:=hm.2 0 (ky,v) en rfl rfl;obtain ⟨s1,_⟩:=uK h hu hx g2 hb;cases b with
  |true =>
   simp at e;subst e;exact ⟨i,en.val,by simp [Instr.findNow,s1],g3⟩
  |false =>
   simp only[cond_false] at e
   have:=kG h hu hx (i:=i+1) hm.tail e
   cases o with
   |none=>simpa [Instr.findNow,s1] using this
   |some v=>simpa [Instr.findNow,s1] using this
theorem mX {t:TypeId} {d:TypeDesc} {x v:AVal} {vx:Value} (h:keyT P t x=true) (hu:P.underlying t=some d) (hx:VRel Ψ ρ x vx):∀ {es es':List (AVal×AVal)} {ents:List MapEntry} {i:Nat},mapRel Ψ es ents→kR x v es=some es' →
  (Instr.findNow d vx ents i=some none∧es'=es++[(x,v)])∨∃ j en u,Instr.findNow d vx ents i=some (some (i+j,u))∧ents[j]?=some en∧es'=es.set j (x,v)∧Instr.sameBits 10000 en.key vx=true
 |[],es',ents,i,hm,e=>by
  have:ents=[]:=List.length_eq_zero_iff.1 (by simpa using hm.1.symm)
  subst this;simp [kR] at e;subst e;exact .inl ⟨rfl,rfl⟩
 |(ky,u)::es,es',[],i,hm,e=>by simp [mapRel] at hm
 |(ky,u)::es,es',en::ents,i,hm,e=>by
  simp only[kR] at e;obtain ⟨b,hb,e⟩:=aC e;obtain ⟨g1,g2,g3⟩:=hm.2 0 (ky,u) en rfl rfl;obtain ⟨s1,s2⟩:=uK h hu hx g2 hb;cases b with
  |true =>
   simp at e;subst e;exact .inr ⟨0,en,en.val,by simp [Instr.findNow,s1],rfl,rfl,s2 rfl⟩
  |false =>
   simp only[cond_false,Option.map_eq_some_iff] at e;obtain ⟨l,hl,rfl⟩:=e;rcases mX h hu hx (i:=i+1) hm.tail hl with ⟨k1,rfl⟩|⟨j,en',u',k1,k2,rfl,k3⟩
   ·exact .inl ⟨by simpa [Instr.findNow,s1] using k1,rfl⟩
   ·refine .inr ⟨j+1,en',u',?_,by simpa using k2,rfl,k3⟩
    simp only[Instr.findNow,s1];rw[k1,show i+1+j=i+(j+1) by omega]
theorem kE {o:Option AObj} {k:List (AVal×AVal)→Option R} (e:lF o k=some r):∃ es,o=some (.map es)∧k es=some r:=by
 unfold lF at e
 split at e
 ·exact ⟨_,rfl,e⟩
 ·cases e
theorem run_getObj {b:Nat} {o:Obj} (h:w.heap[b]?=some o) (hn:∀ c t f,o≠.cells c t f):(getObj b).run P w=.ok o w:=by
 simp [getObj,Sem.run,h]
 try (cases o <;> simp_all)
theorem run_setObj {b:Nat} {o o':Obj} (h:w.heap[b]?=some o) (hn:∀ c t f,o≠.cells c t f):(setObj b o').run P w=.ok () (w.putObj b o'):=by
 simp [setObj,Sem.run,h,World.putObj]
theorem qo (h:Rel P ans B0 w Ψ ρ ow an (sl an tm rs) tmps rs.sto.objs) {x:Operand} {i:Nat} {es:List (AVal×AVal)} (hx:opS an.keep tm rs x=.val (.amap i)) (ho:rs.sto.objs[i]?=some (.map es)) :
  ∃ b ents clock,ρ[i]?=some b∧ev tmps ds x=.map (some b)∧w.heap[b]?=some (.map ents clock)∧ow b=some (true,i,0)∧B0≤b∧(∀ o,Ψ b o=hno)∧mapRel Ψ es ents.toList:=by
 obtain ⟨tx,hsx,_⟩:=bH (ds:=ds) h x;rw[hx] at hsx;generalize hgx:(⟨tmps,ds⟩:Act).eval x=vx at hsx;cases hsx with
 |val _ _ hv=>cases hv with
  |amap _ b hb =>
   obtain ⟨b',h1,h2⟩:=h.objs.2 i _ ho;obtain rfl:b=b':=by rw[hb] at h1;exact Option.some.inj h1
   cases h2 with
   |map _ _ ents clock hh ho' h0 hf hm=>exact ⟨b,ents,clock,hb,hgx,hh,ho',h0,hf,hm⟩
theorem oc (h:Rel P ans B0 w Ψ ρ ow an (sl an tm rs) tmps rs.sto.objs) {t:TypeId} {x:Option Operand} (hlo:rs.sto.lo≤rs.sto.objs.length) (X:Ex P tmps ds w ⟨dst,.makeMap t x,ty,pos,aft,gd⟩ m mk) (e:aB P ans an drawn prot lcl cf tm tk ⟨dst,.makeMap t x,ty,pos,aft,gd⟩ rs kp k=some r):Goal P ans an w B0 Ψ ρ ow tmps tm rs dst m mk mp kp k r:=by
 simp only[aB] at e
 have fin:(execOp (ev tmps ds) ⟨dst,.makeMap t x,ty,pos,aft,gd⟩).run P w=.ok (.value (.map (some w.heap.size))) (w.alloc (.map #[] 0))→k (.val (.amap rs.sto.objs.length)) { rs with sto:={ rs.sto with objs:=rs.sto.objs++[.map []] } }=some r→Goal P ans an w B0 Ψ ρ ow tmps tm rs dst m mk mp kp k r:=fun hrun e=>by
  have hl:=h.objs.1
  have hn:ORel (w.alloc (.map #[] 0)) B0 Ψ (ρ++[w.heap.size]) (oset ow w.heap.size (some (true,rs.sto.objs.length,0))) ans rs.sto.objs.length (.map []) w.heap.size :=
   .map [] _ #[] 0 (heap_alloc_new _) (by simp [oset]) h.base (h.wsat.none_of_ge (Nat.le_refl _)) ⟨rfl,fun i p e h1=>by simp at h1⟩
  obtain ⟨g1,g2⟩:=qO (o:=.map #[] 0) h ow (fun b hb=>hb) (fun kk i _=>Same.refl _ _ _ _ _) hn;refine .inl ⟨_,_,_,_,Ψ,ρ++[w.heap.size],_,e,g1,?_,(fun u o he=>by cases he),(fun cs he=>by cases he),g2,dP _ _,⟨rfl,by simp,fun i hi=>by rw[List.getElem?_append_left (by omega)]⟩,X.val _ _ hrun⟩;refine .val _ _ (.amap _ _ ?_);rw[List.getElem?_append_right (by rw[hl];exact Nat.le_refl _)];simp [hl]
 cases x with
 |none=>exact fin (by simp [execOp,Instr.makeMap]) e
 |some x =>
  simp only at e;obtain ⟨tx,hsx,_⟩:=bH (ds:=ds) h x;obtain ⟨kd,n,e,hv⟩:=eM hsx e;obtain ⟨hg,e⟩:=aA e;unfold aCL at hg
  split at hg
  ·rename_i hu
   exact fin (by simp [execOp,ev,hv,Instr.makeMap,run_underlying hu,Go.asInt,asIntOf]) e
  ·cases hg
theorem zt (h:Rel P ans B0 w Ψ ρ ow an (sl an tm rs) tmps rs.sto.objs) {t:TypeId} {x key:Operand} {ok:Bool} (X:Ex P tmps ds w ⟨dst,.lookup t x key ok,ty,pos,aft,gd⟩ m mk) (e:aB P ans an drawn prot lcl cf tm tk ⟨dst,.lookup t x key ok,ty,pos,aft,gd⟩ rs kp k=some r):Goal P ans an w B0 Ψ ρ ow tmps tm rs dst m mk mp kp k r:=by
 simp only[aB] at e
 split at e
 ·rename_i kt el i hu hx
  obtain ⟨es,ho,e⟩:=kE e;obtain ⟨tk',hsk,_⟩:=bH (ds:=ds) h key;obtain ⟨kv,e,hkv⟩:=iG hsk e;obtain ⟨hg,e⟩:=aA e;obtain ⟨o,ho',e⟩:=aC e;obtain ⟨z,hz,e⟩:=aC e;obtain ⟨b,ents,clock,hb,hvx,hh,hoo,h0,hf,hm⟩:=qo (ds:=ds) h hx ho;obtain ⟨_,d,hkt,_⟩:=sG hg;have hget:=run_getObj (P:=P) hh (by simp);have hck:=run_checkKey (w:=w) hg hkv ents.isEmpty 9999;simp only[zeroOf,Option.bind_eq_some_iff] at hz;obtain ⟨zv,hz1,hz2⟩:=hz
  have hz1':(P.info? el).bind (·.zero)=some zv:=by
   obtain ⟨ti,a1,a2⟩:=hz1;rw[a1];exact a2
  have hfind:=kG (i:=0) hg hkt hkv hm ho'
  have hfk:∀ a,Instr.findNow d (ev tmps ds key) ents.toList 0=some a→(Instr.findKey kt (ev tmps ds key) ents.toList).run P w=.ok a w:=fun a ha=>by
   simp [Instr.findKey,run_underlying hkt,ha]
  have key:∃ u,VRel Ψ ρ (o.getD z) u∧∀ bb,(Instr.lookup t (.map (some b)) (ev tmps ds key) bb).run P w=.ok (if bb then .tuple #[u,.bool o.isSome] else u) w:=by
   cases o with
   |none =>
    refine ⟨zv,fA hz2,fun bb=>?_⟩;simp only[Instr.lookup,Sem.run_bind,run_underlying hu,Result.andThen_ok,hget,Sem.run_pure,hck,hfk _ hfind,aQ hz1'];rfl
   |some v =>
    obtain ⟨j,u,h1,h2⟩:=hfind;refine ⟨u,h2.mono Ψ.le_refl (pre_nil _),fun bb=>?_⟩;simp only[Instr.lookup,Sem.run_bind,run_underlying hu,Result.andThen_ok,hget,Sem.run_pure,hck,hfk _ h1];rfl
  obtain ⟨u,hur,hrun⟩:=key;cases ok with
  |true =>
   simp only at e;refine .plain h e (.tup _ [u,.bool o.isSome] rfl fun i x v h1 h2=>?_) (fun _ _ e=>by cases e) (fun _ e=>by cases e) (X.val _ _ (by simp only[execOp,hvx,Sem.run_bind,hrun];rfl))
   match i,h1,h2 with
   |0,h1,h2=>simp at h1 h2;subst h1;subst h2;exact hur
   |1,h1,h2=>simp at h1 h2;subst h1;subst h2;exact .bool _
   |i+2,h1,_=>simp at h1
  |false =>
   simp only at e;exact .val h e hur (X.val _ _ (by simp only[execOp,hvx,Sem.run_bind,hrun];rfl))
 ·cases e
theorem ey (h:Rel P ans B0 w Ψ ρ ow an (sl an tm rs) tmps rs.sto.objs) {t:TypeId} {x key y:Operand} (X:Ex P tmps ds w ⟨dst,.mapUpdate t x key y,ty,pos,aft,gd⟩ m mk) (e:aB P ans an drawn prot lcl cf tm tk ⟨dst,.mapUpdate t x key y,ty,pos,aft,gd⟩ rs kp k=some r):Goal P ans an w B0 Ψ ρ ow tmps tm rs dst m mk mp kp k r:=by
 simp only[aB] at e
 split at e
 ·rename_i kt el i hu hx
  obtain ⟨es,ho,e⟩:=kE e;obtain ⟨tk',hsk,_⟩:=bH (ds:=ds) h key;obtain ⟨ty',hsy,_⟩:=bH (ds:=ds) h y;obtain ⟨kv,e,hkv⟩:=iG hsk e;obtain ⟨v,e,hv⟩:=iG hsy e;obtain ⟨hg,e⟩:=aA e;simp only[Bool.and_eq_true] at hg;obtain ⟨⟨hg1,hg2⟩,hg3⟩:=hg;obtain ⟨es',hup,e⟩:=aC e;obtain ⟨b,ents,clock,hb,hvx,hh,hoo,h0,hf,hm⟩:=qo (ds:=ds) h hx ho;obtain ⟨hik,d,hkt,_⟩:=sG hg1;have hget:=run_getObj (P:=P) hh (by simp);have dJ:=fun o'=>run_setObj (P:=P) (o':=o') hh (by simp)
  have hck:=run_checkKey (w:=w) hg1 hkv false 9999
  have hfk:∀ a,Instr.findNow d (ev tmps ds key) ents.toList 0=some a→(Instr.findKey kt (ev tmps ds key) ents.toList).run P w=.ok a w:=fun a ha=>by
   simp [Instr.findKey,run_underlying hkt,ha]
  have hkv0:VRel Ψ [] kv (ev tmps ds key):=hkv.flat (pw hik);have hv0:VRel Ψ [] v (ev tmps ds y):=hv.clean hg2;have hlt:b < w.heap.size:=(Array.getElem?_eq_some_iff.1 hh).1;have hil:i < rs.sto.objs.length:=(List.getElem?_eq_some_iff.1 ho).1
  have fin:∀ ents' clock',(Instr.mapUpdate t (.map (some b)) (ev tmps ds key) (ev tmps ds y)).run P w=.ok () (w.putObj b (.map ents' clock'))→mapRel Ψ es' ents'.toList→Goal P ans an w B0 Ψ ρ ow tmps tm rs dst m mk mp kp k r:=fun ents' clock' hrun hmr=>by
   have same:∀ kk j,¬ (kk=true∧j=i)→Same w Ψ ow (w.putObj b (.map ents' clock')) Ψ ow kk j kk j:=fun kk j hk b' s hb' =>
    ⟨hb',World.putObj_heap_other (fun e=>by subst e;rw[hoo] at hb';simp only[Option.some.injEq,Prod.mk.injEq] at hb';exact hk ⟨hb'.1.symm,hb'.2.1.symm⟩),fun _ h=>h⟩
   refine .inl ⟨.dead,_,undef,w.putObj b (.map ents' clock'),Ψ,ρ,ow,e,⟨h.size,h.wsat.put hf,fun u=>?_,h.refs,h.boxes,?_,fun x hx=>by rw[World.putObj_size];exact h.lt x hx,by rw[World.putObj_size];exact h.base,h.hi⟩,.dead _,(fun u o he=>by cases he),(fun cs he=>by cases he),Fr.put (by simp [hoo]) (fun _ h=>h),aG _,⟨rfl,by simp,fun j hj=>?_⟩,X.skip _ (by simp only[execOp,hvx,Sem.run_bind,hrun];rfl)⟩
   ·exact (h.slots u).mono Ψ.le_refl (aG _) (same false u (by simp)) (fun _ _ _=>rfl)
   ·exact h.objs.set hil hb (.map _ _ ents' clock' (World.putObj_heap_same hlt) hoo h0 hf hmr) fun j hj=>same true j (by simp [hj])
   ·have:=Nat.le_of_ble_eq_true hg3
    simp [List.getElem?_set,show ¬ i=j by omega]
  rcases mX (i:=0) hg1 hkt hkv hm hup with ⟨k1,rfl⟩|⟨j,en,u,k1,k2,rfl,k3⟩
  ·refine fin (ents.push { key:=ev tmps ds key,val:=ev tmps ds y,born:=clock }) (clock+1) ?_ ⟨by simp [hm.1],fun j p en hp hen=>?_⟩
   ·simp only[Instr.mapUpdate,Sem.run_bind,run_underlying hu,Result.andThen_ok,hget,hck,hfk _ k1,dJ]
   ·have hl:=hm.1
    rcases Nat.lt_or_ge j es.length with hj|hj
    ·rw[List.getElem?_append_left hj] at hp
     rw[Array.toList_push,List.getElem?_append_left (by omega)] at hen;exact hm.2 j p en hp hen
    ·rw[List.getElem?_append_right hj] at hp
     rw[Array.toList_push,List.getElem?_append_right (by omega)] at hen;have hj0:j - es.length=0:=by have:=(List.getElem?_eq_some_iff.1 hp).1;simp at this;omega
     rw[hj0] at hp;rw[show j - ents.toList.length=0 by omega] at hen;simp at hp hen;subst hp;subst hen;exact ⟨hik,hkv0,hv0⟩
  ·have hj:j < ents.size:=by have:=(List.getElem?_eq_some_iff.1 k2).1;simpa using this
   refine fin (ents.modify j fun e=>{ e with key:=ev tmps ds key,val:=ev tmps ds y }) clock ?_ ⟨by simp [hm.1],fun j' p en' hp hen=>?_⟩
   ·have hkk:((ents[0+j]?).map (·.key)).getD (ev tmps ds key)=en.key:=by
     have:ents[j]?=some en:=by simpa using k2
     simp [this]
    have hst:(Instr.keyThatStays (((ents[0+j]?).map (·.key)).getD (ev tmps ds key)) (ev tmps ds key)).run P w=.ok (ev tmps ds key) w:=by
     rw[hkk];simp [Instr.keyThatStays,k3]
    simp only[Instr.mapUpdate,Sem.run_bind,run_underlying hu,Result.andThen_ok,hget,hck,hfk _ k1,hst,dJ];simp
   ·rw[List.getElem?_set] at hp
    split at hp
    ·subst_vars
     split at hp
     ·simp at hp;subst hp
      simp [Array.getElem?_modify,hj] at hen;subst hen;exact ⟨hik,hkv0,hv0⟩
     ·cases hp
    ·rename_i hne
     refine hm.2 j' p en' hp ?_;simp [Array.getElem?_modify,hne] at hen;simpa using hen
 ·cases e
theorem aCl (h:Rel P ans B0 w Ψ ρ ow an (sl an tm rs) tmps rs.sto.objs) {x:Operand} (X:∀ v,(execOp (ev tmps ds) ⟨dst,.panic x,ty,pos,aft,gd⟩).run P w=.halt (.panic v) w→Steps P m (mp v w)) (e:aB P ans an drawn prot lcl cf tm tk ⟨dst,.panic x,ty,pos,aft,gd⟩ rs kp k=some r):Goal P ans an w B0 Ψ ρ ow tmps tm rs dst m mk mp kp k r:=by
 simp only[aB] at e
 split at e
 ·rename_i t v hx
  obtain ⟨tx,hsx,_⟩:=bH (ds:=ds) h x;rw[hx] at hsx;generalize hgx:(⟨tmps,ds⟩:Act).eval x=vx at hsx;cases hsx with
  |val _ _ hv =>
   have hv':=hv;cases hv with
   |iface _ _ u hu =>
    exact .inr ⟨_,rs,_,w,Ψ,ρ,ow,e,h,hv',Fr.refl _ _ _,aG _,StoLe.refl _,X _ (by simp [execOp,ev,hgx,Instr.panic])⟩
 ·cases e
end Go.AM
end
section
namespace Go.AM
variable {P:Program} {ans:FuncId→Ann} {an:Ann} {w:World} {B0:Nat} {Ψ:HT} {ρ:List Nat} {ow:Own} {tmps:Array Value} {R:Type} {r:R}
variable {tm:List Slot} {rs:RS} {m:Machine} {mk mp:Value→World→Machine} {kp:AVal→RS→Option R} {k:Slot→RS→Option R} {ds:List Deferred}
variable {drawn prot tk:Bool} {lcl:List Nat} {cf:aO} {dst:Option Nat} {ty:TypeId} {pos:String} {aft:Array Edge} {gd:Option (Nat×Bool)}
theorem jX {ρ ρ':List Nat} (h:pre ρ ρ') {n:Nat} (hn:n≤ρ.length):ρ'.take n=ρ.take n:=by
 apply List.ext_getElem?;intro i;rw[List.getElem?_take,List.getElem?_take];split
 ·rename_i hi
  have:i < ρ.length:=by omega
  rw[h i ρ[i] (by simp [this])];simp [this]
 ·rfl
theorem SRel.lokS {n:Nat} {t:Nat} {s:Slot} {v:Value} (h:SRel w B0 Ψ ρ ow tmps t s v) (hf:s.free=true) (hl:cH n s=true):SRel w B0 Ψ (ρ.take n) ow tmps t s v:=by
 cases h with
 |dead=>simp [Slot.free] at hf
 |val x v h=>exact .val x v (h.lok hl)
 |tup xs vs hl' h =>
  refine .tup xs vs hl' fun i x v h1 h2=>(h i x v h1 h2).lok ?_
  exact List.all_eq_true.1 (show xs.all (lok n)=true from hl) x (List.mem_of_getElem? h1)
 |own sz xs v h=>exact .own sz xs v h
 |full xs a n h=>exact .full xs a n h
 |nl=>exact .nl
 |nn xs a n c h=>exact .nn xs a n c h
 |cells=>simp [Slot.free] at hf
 |box=>simp [Slot.free] at hf
 |ref=>simp [Slot.free] at hf
theorem OsRel.old {ρ':List Nat} {objs objs':List AObj} (h:OsRel w B0 Ψ ρ' ow ans objs') (hp:pre ρ ρ') (hl:ρ.length=objs.length) (hk:∀ i,i < objs.length→objs'[i]?=objs[i]?):OsRel w B0 Ψ ρ ow ans objs:=by
 refine ⟨hl,fun i o ho=>?_⟩;have hi:=(List.getElem?_eq_some_iff.1 ho).1;obtain ⟨b,h1,h2⟩:=h.2 i o (by rw[hk i hi];exact ho)
 have hb:ρ[i]?=some b:=by
  have hi':i < ρ.length:=by omega
  have:=hp i ρ[i] (by simp [hi'])
  rw[h1] at this;simp [hi',Option.some.inj this]
 refine ⟨b,hb,h2.mono Ψ.le_refl ?_ (Same.refl _ _ _ _ _)⟩;rw[jX hp (by omega)];exact aG _
theorem kI (h:Rel P ans B0 w Ψ ρ ow an (sl an tm rs) tmps rs.sto.objs) {cc:Callee} {args:List Slot} {c:Frame} {cs:List Frame} {m1:Machine}
  (e:dD prot cf cc args rs kp k=some r)
  (hpost:∀ sto res sto',sto.objs=rs.sto.objs→sto.lo≤sto.objs.length→cf cc args sto=some (res,sto')→eE P ans B0 w Ψ ρ (oP an.nt ow) sto c cs m1 res sto') (hlo:rs.sto.lo≤rs.sto.objs.length)
  (hst:Steps P m m1) (hmk:∀ v w',lone (c.finish v) cs w'=mk v w') (hmp:∀ v w',lone (c.raise [{ v,recovered:=false }]) cs w'=mp v w') :
  Goal P ans an w B0 Ψ ρ ow tmps tm rs dst m mk mp kp k r:=by
 cases prot with
 |false =>
  simp only[dD] at e;obtain ⟨⟨res,sto'⟩,hc,e⟩:=aC e;obtain ⟨w',Ψ',ρ',owr,hF,hp,hw,hos,hlt,hsto,hres⟩:=hpost _ _ _ rfl hlo hc;obtain ⟨hR,hFr⟩:=wP h hF hp hw hp hos hlt;cases res with
  |ret s =>
   obtain ⟨_,e⟩:=aA e;obtain ⟨hfr,v,hs,hsteps⟩:=hres;refine .inl ⟨s,{ rs with sto:=sto' },v,w',Ψ',ρ',_,e,hR,?_,(fun u o he=>by subst he;simp [Slot.free] at hfr),(fun cs he=>by subst he;simp [Slot.free] at hfr),hFr,hp,hsto,hst.trans (by rw[←hmk];exact hsteps)⟩;refine SRel.mono (hs.free_tmps (tmps':=tmps) hfr) Ψ'.le_refl (aG _) (fun b s hb=>⟨by simp [eY,hb],rfl,fun _ h=>h⟩) (fun _ _ _=>rfl)
  |pan x =>
   obtain ⟨v,hv,hsteps⟩:=hres;exact .inr ⟨x,{ rs with sto:=sto' },v,w',Ψ',ρ',_,e,hR,hv,hFr,hp,hsto,hst.trans (by rw[←hmp];exact hsteps)⟩
 |true =>
  simp only[dD] at e;obtain ⟨⟨res,sto'⟩,hc,e⟩:=aC e;obtain ⟨w',Ψ',ρ',owr,hF,hp,hw,hos,hlt,hsto,hres⟩:=hpost { rs.sto with lo:=rs.sto.objs.length } _ _ rfl (Nat.le_refl _) hc;cases res with
  |ret s =>
   obtain ⟨hg,e⟩:=aA e;simp only[Bool.and_eq_true] at hg
   replace hg:=hg.1
   obtain ⟨hfr,v,hs,hsteps⟩:=hres;have hol:=h.objs.1;have hos':=hos.old (ρ:=ρ) (objs:=rs.sto.objs) hp hol (fun i hi=>hsto.keep i hi);obtain ⟨hR,hFr⟩:=wP h hF hp hw (aG _) hos' hlt;refine .inl ⟨s,rs,v,w',Ψ',ρ,_,e,hR,?_,(fun u o he=>by subst he;simp [Slot.free] at hfr),(fun cs he=>by subst he;simp [Slot.free] at hfr),hFr,aG _,StoLe.refl _,hst.trans (by rw[←hmk];exact hsteps)⟩;have hs2:=(hs.free_tmps (tmps':=tmps) hfr).lokS hfr hg;rw[jX hp (by rw[hol];exact Nat.le_refl _),List.take_of_length_le (by rw[hol];exact Nat.le_refl _)] at hs2;exact hs2.mono Ψ'.le_refl (aG _) (fun b s hb=>⟨by simp [eY,hb],rfl,fun _ h=>h⟩) (fun _ _ _=>rfl)
  |pan x=>cases e
theorem kB {o:Option TypeId} {β:Type} {f:TypeId→Option β} {b:β} (h:o.bind f=some b):∃ t,o=some t∧f t=some b:=by
 cases o with
 |none=>cases h
 |some t=>exact ⟨t,rfl,h⟩
theorem aEE (h:Rel P ans B0 w Ψ ρ ow an (sl an tm rs) tmps rs.sto.objs) {c:Call} (hcf:lS P ans B0 cf) (hlo:rs.sto.lo≤rs.sto.objs.length) {fr:Frame} {cs:List Frame} (X:Ex P tmps ds w ⟨dst,.call c,ty,pos,aft,gd⟩ m mk)
  (Xe:∀ f args,(execOp (ev tmps ds) ⟨dst,.call c,ty,pos,aft,gd⟩).run P w=.ok (.enter f args) w→Steps P m (lone (Frame.enter P f args .normal) (fr::cs) w))
  (Xr:∀ l f tmps' x y,(execOp (ev tmps ds) ⟨dst,.call c,ty,pos,aft,gd⟩).run P w=.ok (.round l f tmps' x y) w→Steps P m (lone (Frame.round l f tmps' x y .normal) (fr::cs) w))
  (hmk:∀ v w',lone (fr.finish v) cs w'=mk v w') (hmp:∀ v w',lone (fr.raise [{ v,recovered:=false }]) cs w'=mp v w')
  (e:aB P ans an drawn prot lcl cf tm tk ⟨dst,.call c,ty,pos,aft,gd⟩ rs kp k=some r):Goal P ans an w B0 Ψ ρ ow tmps tm rs dst m mk mp kp k r:=by
 obtain ⟨cal,⟨argl⟩,ats⟩:=c;simp only[aB] at e
 split at e
 ·rename_i x
  obtain ⟨tx,hsx,_⟩:=bH (ds:=ds) h x
  have hex:∀ v,(Builtin.len_ ats ty #[ev tmps ds x]).run P w=.ok v w→Steps P m (mk v w):=fun v hv=>X.val _ _ (by
   simp [execOp,resolve,invoke,builtin];simp [ev] at hv;simp [hv])
  split at e
  ·rename_i hu
   obtain ⟨t,ht,hu⟩:=kB hu
   split at e
   ·rename_i s hx
    rw[hx] at hsx;generalize hgx:(⟨tmps,ds⟩:Act).eval x=vx at hsx;cases hsx with
    |val _ _ hv=>cases hv with
     |str=>exact .val h e (.int _ _) (hex _ (by simp [Builtin.len_,ht,run_underlying hu,ev,hgx,goInt];rfl))
   ·cases e
  ·rename_i el hu
   obtain ⟨t,ht,hu⟩:=kB hu;obtain ⟨xs,e,hxs⟩:=sO hsx e;generalize hgx:(⟨tmps,ds⟩:Act).eval x=vx at hxs;cases hxs with
   |slice _ a len cap s' hl hc hx=>exact .val h e (by rw[hl];exact .int _ _) (hex _ (by simp [Builtin.len_,ht,run_underlying hu,ev,hgx,goInt]))
  ·rename_i n el hu
   obtain ⟨t,ht,hu⟩:=kB hu;exact .val h e (.int _ _) (hex _ (by simp [Builtin.len_,ht,run_underlying hu,goInt]))
  ·rename_i kt el hu
   obtain ⟨t,ht,hu⟩:=kB hu
   split at e
   ·rename_i i hx
    obtain ⟨es,ho,e⟩:=kE e;obtain ⟨b,ents,clock,hb,hvx,hh,hoo,h0,hf,hm⟩:=qo (ds:=ds) h hx ho;refine .val h e (by rw[hm.1];exact .int _ _) (hex _ ?_);rw[hvx];simp [Builtin.len_,ht,run_underlying hu,run_getObj (P:=P) hh (by simp),goInt]
   ·cases e
  ·cases e
 ·rename_i s x
  obtain ⟨tx,hsx,_⟩:=bH (ds:=ds) h x;obtain ⟨tS,hss,hst⟩:=bH (ds:=ds) h s
  split at e
  ·rename_i el el2 hu1 hu2
   obtain ⟨t1,ht1,hu1⟩:=kB hu1;obtain ⟨t2,ht2,hu2⟩:=kB hu2
   have sle:∀ {t q:TypeId},aR P t=some q→P.underlying t=some (.slice q):=fun hq=>by
    unfold aR at hq
    split at hq
    ·rename_i e' he;cases hq;exact he
    ·cases hq
   obtain ⟨sz,hsz,e⟩:=aC e;obtain ⟨z,hz,e⟩:=aC e;obtain ⟨ys,e,hys⟩:=sO hsx e;obtain ⟨hg,e⟩:=aA e;simp only[Bool.and_eq_true] at hg;obtain ⟨⟨⟨⟨g1,g2⟩,g3⟩,g4⟩,g5⟩:=hg;have hpos:0 < sz:=by simpa [Nat.blt_eq] using g1
   have hby0:0 < aL P el:=by simpa [Nat.blt_eq] using g4
   have hysl:∀ y∈ys,y.cells.length=sz:=fun y hy=>Nat.eq_of_beq_eq_true (List.all_eq_true.1 g5 y hy)
   simp only[zeroOf,Option.bind_eq_some_iff] at hz;obtain ⟨zv,hz1,hz2⟩:=hz
   have hz1':(P.info? el).bind (·.zero)=some zv:=by
    obtain ⟨ti,a1,a2⟩:=hz1;rw[a1];exact a2
   have hzs:zv.cells.size=sz:=by
    have:=(fA (Ψ:=Ψ) (ρ:=ρ) hz2).cells.1
    rw[←this];exact Nat.eq_of_beq_eq_true g2
   have hex:∀ v w',(Builtin.append_ ats ty #[ev tmps ds s,ev tmps ds x]).run P w=.ok v w'→Steps P m (mk v w'):=fun v w' hv=>X.val _ _ (by
    simp [execOp,resolve,invoke,builtin];simp [ev] at hv;simp [hv])
   have core:∀ {rs1:RS} {ow1:Own} {xs:List AVal},rs1.sto=rs.sto→Rel P ans B0 w Ψ ρ ow1 an (sl an tm rs1) tmps rs1.sto.objs→Fr w Ψ ow w Ψ ow1→OwnRel w B0 Ψ ow1 (false,an.nt,1) sz xs (ev tmps ds s)→xs.length+ys.length≤room →
     k (.own sz (xs++ys)) rs1=some r→Goal P ans an w B0 Ψ ρ ow tmps tm rs dst m mk mp kp k r:=fun hrs h1 hF ho hroom hk=>by
    obtain ⟨v',w',Ψ',ow',hrun,hR,hO,hFr⟩:=gw h1 ho hys hysl (ty:=ty) ht1 ht2 (sle hu1) (sle hu2) hsz hpos hz1' hzs (Nat.le_of_ble_eq_true g3) hby0 hroom;exact .inl ⟨_,_,v',w',Ψ',ρ,ow',hk,hR,.own _ _ _ hO,(fun u o he=>by cases he),(fun cs he=>by cases he),hF.trans hFr,aG _,by rw[hrs];exact StoLe.refl _,hex _ _ hrun⟩
   have e3:(∃ sz' xs t,opS an.keep tm rs s=.own sz' xs∧s=.tmp t∧aJ (Nat.beq sz sz'&&Nat.ble (xs.length+ys.length) room) (k (.own sz (xs++ys)) (rs.put t (.val (.slice xs))))=some r) ∨
     (∃ xs,opS an.keep tm rs s=.full xs∧aJ (xs.all (fun y=>Nat.beq y.cells.length sz)&&Nat.ble (xs.length+ys.length) room) (k (.own sz (xs++ys)) rs)=some r) ∨
     (opS an.keep tm rs s=.nl∧aJ (Nat.ble ys.length room) (k (.own sz ys) rs)=some r):=by
    split at e
    ·exact .inl ⟨_,_,_,by assumption,rfl,e⟩
    ·exact .inr (.inl ⟨_,by assumption,e⟩)
    ·exact .inr (.inr ⟨by assumption,e⟩)
    ·cases e
   rcases e3 with ⟨sz',xs,t,hs,hst',e3⟩|⟨xs,hs,e3⟩|⟨hs,e3⟩
   ·obtain rfl:=hst t hst'
    subst hst';obtain ⟨hg,e3⟩:=aA e3;simp only[Bool.and_eq_true] at hg;have hzz:=Nat.eq_of_beq_eq_true hg.1;have hs':sl an tm rs tS=.own sz' xs:=hs;have hvx:VRel Ψ ρ (.slice xs) (tmps.getD tS undef):=by have:=h.slots tS;rw[hs'] at this;cases this with|own _ _ _ hv=>exact hv.val
    obtain ⟨h1,h2⟩:=h.take tS (h.lt_of (by rw[hs'];simp)) (.slice xs) hvx (by rw[hs'];simp) an.nt;rw[hs'] at h2
    have hO:OwnRel w B0 Ψ (ren ow false tS false an.nt 0) (false,an.nt,1) sz xs (tmps.getD tS undef):=by
     rw[hzz];cases h2 with|own _ _ _ hv=>exact hv
    refine core (rs1:=rs.put tS (.val (.slice xs))) rfl ?_ (Fr.ren _ _ _) hO (Nat.le_of_ble_eq_true hg.2) e3;rw[show sl an tm (rs.put tS (.val (.slice xs)))=upd (sl an tm rs) tS (.val (.slice xs)) from dG _ _ _ _ _];exact h1
   ·obtain ⟨hg,e3⟩:=aA e3
    simp only[Bool.and_eq_true] at hg;have hxsl:∀ y∈xs,y.cells.length=sz:=fun y hy=>Nat.eq_of_beq_eq_true (List.all_eq_true.1 hg.1 y hy)
    rw[hs] at hss;refine core rfl h (Fr.refl _ _ _) ?_ (Nat.le_of_ble_eq_true hg.2) e3;generalize hgx:(⟨tmps,ds⟩:Act).eval s=vx at hss;cases hss with
    |full _ a n hv=>rw[ev,hgx];exact ⟨hv,hxsl,a,n,n,rfl,.inl rfl⟩
   ·obtain ⟨hg,e3⟩:=aA e3
    rw[hs] at hss;refine core (xs:=[]) rfl h (Fr.refl _ _ _) ?_ (by simpa using Nat.le_of_ble_eq_true hg) e3;generalize hgx:(⟨tmps,ds⟩:Act).eval s=vx at hss;cases hss with
    |nl=>rw[ev,hgx];exact wM _ _
  ·cases e
 ·rename_i x y
  obtain ⟨tx,hsx,_⟩:=bH (ds:=ds) h x;obtain ⟨tY,hsy,_⟩:=bH (ds:=ds) h y;obtain ⟨kd,n,e,hn⟩:=eM hsx e;obtain ⟨kd',m,e,hm⟩:=eM hsy e;refine .val h e (.int _ _) (X.val _ _ ?_);have hb:(bif decide (m > n) then m else n)=(if m > n then m else n):=by by_cases hc:m > n <;> simp [hc]
  rw[hb];simp [execOp,resolve,invoke,builtin,Builtin.max_,Builtin.max2,ev,hn,hm]
 ·rename_i f
  obtain ⟨tf,hsf,_⟩:=bH (ds:=ds) h f
  split at e
  ·rename_i g caps hf
   rw[hf] at hsf;generalize hgx:(⟨tmps,ds⟩:Act).eval f=vf at hsf;cases hsf with
   |val _ _ hv=>cases hv with
    |func _ _ cv hcl hcv =>
     obtain ⟨l,rs1,ow1,e,h1,hsto,hl,hfr,ha,hF,_⟩:=oM (ds:=ds) h e;have hpre:=fun sto hso hslo=>zG (ds:=ds) h1 sto hso hslo hl hfr ha hcl hcv
     have hG:Goal P ans an w B0 Ψ ρ ow1 tmps tm rs1 dst m mk mp kp k r:=by
      cases hcall:cf (.fn g) (l++caps.map .val) (if prot then { rs1.sto with lo:=rs1.sto.objs.length } else rs1.sto) with
      |none=>cases prot <;> simp only[if_true,Bool.false_eq_true,if_false] at hcall <;> simp [dD,hcall] at e
      |some p =>
       have hfn:=(hcf.fn g _ _ p.1 p.2 hcall).1;obtain ⟨F,hF1,hF2,hF3⟩:=hfn;refine kI (c:=fr) (cs:=cs) (m1:=lone (Frame.enter P g ⟨argl.map (⟨tmps,ds⟩:Act).eval++cv⟩ .normal) (fr::cs) w) h1 e (fun sto res sto' hso hslo hc=>(hcf.fn g _ _ _ _ hc).2 w Ψ ρ _ _ (hpre sto hso hslo) fr cs) (by rw[hsto];exact hlo) (Xe _ _ ?_) hmk hmp;obtain ⟨bd,hbd⟩:=Option.isSome_iff_exists.1 hF2;simp [execOp,resolve,ev,hgx,Deferred.ofValue,invoke,callFunc,hF1,hF3,hbd]
     rcases hG with ⟨s,rs',v,w',Ψ',ρ',ow',a1,a2,a3,a4,a5,a6,a7,a8,a9⟩|⟨x,rs',v,w',Ψ',ρ',ow',a1,a2,a3,a6,a7,a8,a9⟩
     ·exact .inl ⟨s,rs',v,w',Ψ',ρ',ow',a1,a2,a3,a4,a5,hF.trans a6,a7,by rw[←hsto];exact a8,a9⟩
     ·exact .inr ⟨x,rs',v,w',Ψ',ρ',ow',a1,a2,a3,hF.trans a6,a7,by rw[←hsto];exact a8,a9⟩
  ·rename_i i hf
   rw[hf] at hsf;generalize hgx:(⟨tmps,ds⟩:Act).eval f=vf at hsf;cases hsf with
   |val _ _ hv=>cases hv with
    |yld _ b hb =>
     obtain ⟨l,rs1,ow1,e,h1,hsto,hl,hfr,ha,hF,_⟩:=oM (ds:=ds) h e;have hpre:=fun sto hso hslo=>zG (ds:=ds) h1 sto hso hslo hl hfr ha (caps:=[]) (cv:=[]) rfl (fun i c v hc=>by simp at hc)
     simp only[List.map_nil,List.append_nil] at hpre
     have hG:Goal P ans an w B0 Ψ ρ ow1 tmps tm rs1 dst m mk mp kp k r:=by
      cases hcall:cf (.yld i) l (if prot then { rs1.sto with lo:=rs1.sto.objs.length } else rs1.sto) with
      |none=>cases prot <;> simp only[if_true,Bool.false_eq_true,if_false] at hcall <;> simp [dD,hcall] at e
      |some p =>
       obtain ⟨al,hal,hlen,_⟩:=hcf.yld i _ _ p.1 p.2 hcall;have hal':rs1.sto.objs[i]?=some (.loop al):=by cases prot <;> exact hal
       obtain ⟨b',hb',hor⟩:=h1.objs.2 i _ hal';obtain rfl:b=b':=by rw[hb] at hb';exact Option.some.inj hb'
       cases hor with
       |loop _ _ rr hrr ho0 h00 hff hlr =>
        refine kI (c:=fr) (cs:=cs) (m1:=lone (Frame.round b rr.fn ((rr.params.zip ⟨argl.map (⟨tmps,ds⟩:Act).eval⟩).foldl (fun t (p,a)=>t.setIfInBounds p a) rr.tmps) rr.assign rr.body .normal) (fr::cs) w) h1 e
         (fun sto res sto' hso hslo hc=>?_) (by rw[hsto];exact hlo) (Xr _ _ _ _ _ ?_) hmk hmp
        ·obtain ⟨_,_,_,hc2⟩:=hcf.yld i _ _ _ _ hc
         exact hc2 w Ψ ρ _ _ (hpre sto hso hslo) b rr hb hrr fr cs
        ·have hsize:argl.length=rr.params.size:=by rw[hlr.params,←hlen,hl]
         have hget:=run_getObj (P:=P) hrr (by simp);simp [execOp,resolve,ev,hgx,Deferred.ofValue,invoke,Instr.yield,Instr.getLoop,hget,hsize]
     rcases hG with ⟨s,rs',v,w',Ψ',ρ',ow',a1,a2,a3,a4,a5,a6,a7,a8,a9⟩|⟨x,rs',v,w',Ψ',ρ',ow',a1,a2,a3,a6,a7,a8,a9⟩
     ·exact .inl ⟨s,rs',v,w',Ψ',ρ',ow',a1,a2,a3,a4,a5,hF.trans a6,a7,by rw[←hsto];exact a8,a9⟩
     ·exact .inr ⟨x,rs',v,w',Ψ',ρ',ow',a1,a2,a3,hF.trans a6,a7,by rw[←hsto];exact a8,a9⟩
  ·cases e
 ·cases e
theorem aAG (h:Rel P ans B0 w Ψ ρ ow an (sl an tm rs) tmps rs.sto.objs) (hcf:lS P ans B0 cf) (hlo:rs.sto.lo≤rs.sto.objs.length) {o:Oper} {b:Frame} {ops:Array Oper} {i:Nat} {rest:List Nat} {items:List Item} {cs:List Frame}
  (ho:ops[i]?=some o) (hw:Region.wanted o (yielded ops tmps)=true)
  (e:aB P ans an drawn prot lcl cf tm tk o rs kp k=some r) :
  Goal P ans an w B0 Ψ ρ ow tmps tm rs o.dst (lone (b.atR ⟨tmps,ds⟩ (.inRegion ops (i::rest)::items)) cs w) (fun v w'=>lone (b.atR ((⟨tmps,ds⟩:Act).put o.dst v) (.inRegion ops rest::items)) cs w')
   (fun v w'=>lone { b.atR ⟨tmps,ds⟩ (.inRegion ops (i::rest)::items) with mode:=.panicking [{ v,recovered:=false }] } cs w') kp k r:=by
 have hnd:∀ c,o.op≠.defer c:=fun c hc=>by
  obtain ⟨d,op,ty,pos,aft,gd⟩:=o;simp only at hc;subst hc;simp [aB] at e
 have X:Ex P tmps ds w o (lone (b.atR ⟨tmps,ds⟩ (.inRegion ops (i::rest)::items)) cs w) (fun v w'=>lone (b.atR ((⟨tmps,ds⟩:Act).put o.dst v) (.inRegion ops rest::items)) cs w') :=
  ⟨fun v w' hr=>.one (cY (a:=⟨tmps,ds⟩) ho hw hnd hr),fun w' hr=>.one (eW (a:=⟨tmps,ds⟩) ho hw hnd hr)⟩
 have hmk:∀ v w',lone ((b.atR ⟨tmps,ds⟩ (.inRegion ops (i::rest)::items)).finish v) cs w'=lone (b.atR ((⟨tmps,ds⟩:Act).put o.dst v) (.inRegion ops rest::items)) cs w':=fun v w'=>by
  rw[Frame.finish_atR,ho];rfl
 have hmp:∀ v w',lone ((b.atR ⟨tmps,ds⟩ (.inRegion ops (i::rest)::items)).raise [{ v,recovered:=false }]) cs w'=lone { b.atR ⟨tmps,ds⟩ (.inRegion ops (i::rest)::items) with mode:=.panicking [{ v,recovered:=false }] } cs w':=fun v w'=>by
  rw[Frame.raise_atR]
 obtain ⟨d,op,ty,pos,aft,gd⟩:=o;cases op
 case move=>exact aEx h X e
 case assign=>exact zr h X e
 case pick=>exact aE2 h X e
 case alloc=>exact aAu h hlo X e
 case box=>exact aG5 h hlo X e
 case build=>exact aBu h X e
 case buildSlice=>exact wX h X e
 case load=>exact aEC h X e
 case store=>exact aAL h X e
 case nilCheck=>exact mc h X e
 case binOp=>exact aCE h X e
 case unOp=>exact aDE h X e
 case convert=>exact qq h X e
 case fieldAddr=>exact ak h X e
 case field=>exact aAX h X e
 case indexAddr=>exact y9 h X e
 case index=>exact aB7 h X e
 case slice=>exact aAJ h X e
 case makeInterface=>exact qG h X e
 case makeFunc=>exact jd h X e
 case makeMap=>exact oc h hlo X e
 case lookup=>exact zt h X e
 case mapUpdate=>exact ey h X e
 case extract=>exact ov h X e
 case panic=>exact aCl h (fun v hr=>.one (px (a:=⟨tmps,ds⟩) ho hw hnd hr)) e
 case call=>exact aEE h hcf hlo X (fun f args hr=>.one (jL (a:=⟨tmps,ds⟩) ho hw hnd hr)) (fun l f t x y hr=>.one (k9 (a:=⟨tmps,ds⟩) ho hw hnd hr)) hmk hmp e
 all_goals (simp [aB] at e)
end Go.AM
end
