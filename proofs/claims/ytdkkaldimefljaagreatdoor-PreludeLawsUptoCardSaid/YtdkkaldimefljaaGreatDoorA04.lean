import Derived.Test.YtdkkaldimefljaaGreatDoorA03
import Derived.Laws.Strings2
import Derived.MapKept
set_option linter.all false
namespace Go.AM
section
variable {P:Program}{ans:FuncId->AK}{an:AK}{w:World}{B0:Nat}{Z:HT}{J:List Nat}{ow:Own}{tmps:Array Value}{R:Type}{r:R}
variable {tm:List Slot}{rs:RS}{m:Machine}{mk mp:Value->World->Machine}{kp:AVal->RS->Option R}{k:Slot->RS->Option R}{ds:List Deferred}
variable {drawn AF tk:Bool}{DS:List Nat}{cf:aO}{dst:Option Nat}{ty:TypeId}{pos:String}{AH:Array Edge}{gd:Option (Nat×Bool)}
theorem o9(h:Rel P ans B0 w Z J ow an (sl an tm rs) tmps rs.sto.objs){x:Option Operand}{d:Int}{k:Int->Option R}(e:jQ an.keep tm rs x d k=some r) :
  ∃n,k n=some r/\((x=none/\n=d)\/∃y kd,x=some y/\ev tmps ds y=.int kd n):=by
 cases x with
 |none=>exact⟨d,e,.inl ⟨rfl,rfl⟩⟩
 |some y =>
  obtain⟨tx,BR,_⟩:=bH (ds:=ds) h y;obtain⟨kd,n,e,hv⟩:=eJ BR e;exact⟨n,e,.inr ⟨y,kd,rfl,hv⟩⟩
theorem kH{isS:Bool}{len cap:Nat}{lo hi:Option Operand}{l h:Int}(hl:(lo=none/\l=0)\/∃y kd,lo=some y/\ev tmps ds y=.int kd l)(hh:(hi=none/\h=len)\/∃y kd,hi=some y/\ev tmps ds y=.int kd h)
  (h0:0<=l) (h1:l<=h) (h2:h<=len) (h3:len<=cap):(Instr.sliceBounds isS len cap (lo.map (ev tmps ds)) (hi.map (ev tmps ds)) none).run P w=.ok (l.toNat,h.toNat,cap) w:=by
 have eh:(h.toNat:Int)=h:=Int.toNat_of_nonneg (by omega);have h4:h<=(cap:Int):=by omega
 rcases hl with⟨rfl,rfl⟩|⟨y,kd,rfl,hy⟩<;>rcases hh with⟨rfl,rfl⟩|⟨z,HB,rfl,hz⟩
 ·simp[Instr.sliceBounds]
 ·simp[Instr.sliceBounds,hz,run_sliceBound,h4,show 0<=h by omega]
 ·simp[Instr.sliceBounds,hy,run_sliceBound,h0,h1]
 ·simp[Instr.sliceBounds,hy,hz,run_sliceBound,h0,h4,eh,h1,show 0<=h by omega]
theorem n5{len cap:Nat}{lo:Option Operand}{l h:Int}{z u:Operand}{kz ku:IntKind}(hl:(lo=none/\l=0)\/∃y kd,lo=some y/\ev tmps ds y=.int kd l)(hz:ev tmps ds z=.int kz h)(hu:ev tmps ds u=.int ku h)
  (h0:0<=l) (h1:l<=h) (h2:h<=len) (h3:len<=cap):(Instr.sliceBounds true len cap (lo.map (ev tmps ds)) (some (ev tmps ds z)) (some (ev tmps ds u))).run P w=.ok (l.toNat,h.toNat,h.toNat) w:=by
 have eh:(h.toNat:Int)=h:=Int.toNat_of_nonneg (by omega);have h4:h<=(cap:Int):=by omega
 rcases hl with⟨rfl,rfl⟩|⟨y,kd,rfl,hy⟩
 ·simp[Instr.sliceBounds,hz,hu,run_sliceBound,h4,show 0<=h by omega,eh]
 ·simp[Instr.sliceBounds,hy,hz,hu,run_sliceBound,h0,h4,eh,h1,show 0<=h by omega]
theorem VRel.cut{J':List Nat}{xs:List AVal}{a:Option Addr}{len cap sz l h:Nat}(hx:VRel Z J (.slice xs) (.slice a len cap))(h1:l<=h)(h2:h<=xs.length)(hd:lz sz ((xs.take h).drop l)=true)(M:Nat)(hM:h<=M) :
  VRel Z J' (.slice ((xs.take h).drop l)) (.slice (if M=l then a else a.map (·.add (l*sz))) (h-l) (M-l)):=by
 cases hx with
 |slice _ _ _ _ s hl hc hx =>
  refine .slice _ _ _ _ s (by simp;omega) (by omega) λi x hi=>?_
  have hlen:i<((xs.take h).drop l).length:=(Ab.1 hi).1;simp only[Cp,Cj] at hlen;rw[Dr,Bm,Bo (by omega)] at hi;obtain⟨g1,b,o,rfl,g2⟩:=hx (l+i) x hi
  have HO:s=sz:=by
   have hl0:l<xs.length:=by omega
   obtain⟨g3,_⟩:=hx l xs[l] (by simp[hl0])
   have HW:(xs.take h).drop l=xs[l]::(xs.take h).drop (l+1):=by
    rw[Cc (by simp;omega)];simp
   rw[HW] at hd;rw[<-g3];exact Aa hd
  subst HO;refine⟨g1,b,o+l*s,?_,λj c hj=>?_⟩
  ·rw[Ax (by omega)]
   simp[cF]
  ·have:=g2 j c hj
   rw[show o+l*s+i*s+j=o+(l+i)*s+j by rw[Ct];omega];exact this
theorem aFv(h:Rel P ans B0 w Z J ow an (sl an tm rs) tmps rs.sto.objs){t:TypeId}{x:Operand}{lo hi mx:Option Operand}(X:Ex P tmps ds w ⟨dst,.slice t x lo hi mx,ty,pos,AH,gd⟩ m mk)(e:aD P ans an drawn AF DS cf tm tk ⟨dst,.slice t x lo hi mx,ty,pos,AH,gd⟩ rs kp k=some r):Goal P ans an w B0 Z J ow tmps tm rs dst m mk mp kp k r:=by
 simp only[aD] at e;obtain⟨tx,BR,_⟩:=bH (ds:=ds) h x
 split at e
 ·rename_i hu
  split at e
  ·rename_i s hx
   obtain⟨l,e,hl⟩:=o9 (ds:=ds) h e;obtain⟨hh,e,ML⟩:=o9 (ds:=ds) h e;obtain⟨hg,e⟩:=aB e;simp only[Ac,Am] at hg;rw[hx] at BR;generalize DW:(⟨tmps,ds⟩:Act).eval x=vx at BR;cases BR with
   |val _ _ hv=>cases hv with
    |str =>
     have hb:=kH (P:=P) (w:=w) (isS:=false) (len:=s.length) (cap:=s.length) hl ML hg.1.1 hg.1.2 hg.2 (Ae _);have BG:(⟨⟨s⟩⟩:ByteArray).size=s.length:=rfl
     have hex:(⟨⟨s⟩⟩:ByteArray).extract l.toNat hh.toNat=⟨⟨(s.take hh.toNat).drop l.toNat⟩⟩:=by
      have:=ByteArray.extract_mk s l.toNat hh.toNat
      rw[show(⟨⟨s⟩⟩:ByteArray)=ByteArray.mk s.toArray from rfl,this,List.drop_take]
     exact .val h e (.str _) (X.val _ _ (by simp[execOp,ev,DW,Instr.sliceAt,Instr.slice,run_underlying hu,BG];simp[ev] at hb;simp[hb,hex]))
  ·cases e
 ·rename_i el hu
  obtain⟨sz,BG,e⟩:=aC e;obtain⟨xs,e,C9⟩:=wM BR e;obtain⟨l,e,hl⟩:=o9 (ds:=ds) h e;obtain⟨hh,e,ML⟩:=o9 (ds:=ds) h e;have G3:=C9;generalize DW:(⟨tmps,ds⟩:Act).eval x=vx at C9 G3;cases C9 with
  |slice _ a len cap s' hlen hc hx =>
   rw[hlen] at ML;cases mx with
   |none =>
    simp only[fF] at e;obtain⟨hg,e⟩:=aB e;simp only[Ac,Am] at hg;obtain⟨⟨⟨g1,g2⟩,g3⟩,g4⟩:=hg;rw[hlen] at g3;have hb:=kH (P:=P) (w:=w) (isS:=true) (len:=len) (cap:=cap) hl ML g1 g2 g3 hc;refine .val h e (G3.cut (J':=J) (sz:=sz) (by omega) (by omega) g4 cap (by omega)) (X.val _ _ ?_);simp only[ev] at hb;simp[execOp,ev,DW,Instr.sliceAt,Instr.slice,run_underlying hu,hb,run_sizeOf BG]
   |some u =>
    simp only at e;obtain⟨tu,hsu,_⟩:=bH (ds:=ds) h u;obtain⟨ku,mm,e,hum⟩:=eJ hsu e;obtain⟨S8,e⟩:=aB e;have S8:mm=hh:=by simpa using S8
    subst S8;rcases ML with⟨rfl,_⟩|⟨z,kz,rfl,hz⟩
    ·cases e
    ·simp only[fF] at e
     obtain⟨hg,e⟩:=aB e;simp only[Ac,Am] at hg;obtain⟨⟨⟨g1,g2⟩,g3⟩,g4⟩:=hg;rw[hlen] at g3;have hb:=n5 (P:=P) (w:=w) (len:=len) (cap:=cap) hl hz hum g1 g2 g3 hc;refine .plain h e (.full _ _ _ (G3.cut (J':=[]) (sz:=sz) (by omega) (by omega) g4 mm.toNat (Ae _))) (λ_ _ e=>by cases e) (λ_ e=>by cases e) (X.val _ _ ?_);simp only[ev] at hb;simp[execOp,ev,DW,Instr.sliceAt,Instr.slice,run_underlying hu,hb,run_sizeOf BG]
 ·cases e
theorem wQ{t:TypeId}{x:AVal}(h:keyT P t x=true):isKey x=true/\∃d,P.underlying t=some d/\((∃kd k n,d=.int kd/\x=.int k n)\/∃s,d=.string/\x=.str s):=by
 unfold keyT at h
 split at h
 ·rename_i hu;exact⟨rfl,_,hu,.inl ⟨_,_,_,rfl,rfl⟩⟩
 ·rename_i hu;exact⟨rfl,_,hu,.inr ⟨_,rfl,rfl⟩⟩
 ·cases h
theorem ye{x:AVal}(h:isKey x=true):flat x=true:=by cases x<;>simp_all [isKey,flat]
theorem run_checkKey{t:TypeId}{x:AVal}{v:Value}(h:keyT P t x=true)(hv:VRel Z J x v)(b:Bool)(n:Nat):(Instr.checkKey b (n+1) t v).run P w=.ok () w:=by
 obtain⟨_,d,hu,hd⟩:=wQ h;rcases hd with⟨kd,k,n,rfl,rfl⟩|⟨s,rfl,rfl⟩
 ·cases hv;simp[Instr.checkKey,run_underlying hu]
 ·cases hv;simp[Instr.checkKey,run_underlying hu]
theorem bytes_beq(a b:List UInt8):((⟨⟨a⟩⟩:ByteArray)==⟨⟨b⟩⟩)=(a==b):=by
 show((⟨a⟩:Array UInt8)==⟨b⟩)=(a==b)
 simp
theorem zU{t:TypeId}{d:TypeDesc}{x y:AVal}{vx vy:Value}(h:keyT P t x=true)(hu:P.underlying t=some d)(hx:VRel Z J x vx)(hy:VRel Z [] y vy){b:Bool}(e:eC x y=some b) :
  Instr.sameNow d vx vy=some b/\(b=true->Instr.sameBits 10000 vy vx=true):=by
 obtain⟨_,d',EA,hd⟩:=wQ h;obtain rfl:d=d':=by rw[hu] at EA;exact Ap EA
 rcases hd with⟨kd,k,n,rfl,rfl⟩|⟨s,rfl,rfl⟩
 ·cases hx
  cases hy with
  |int k' n' =>
   simp only[eC] at e
   split at e
   ·subst_vars
    cases e;refine⟨by simp[Instr.sameNow],λhb=>?_⟩
    have:n=n':=by simpa using hb
    simp[Instr.sameBits,this]
   ·cases e
  |_=>simp[eC] at e
 ·cases hx
  cases hy with
  |str s' =>
   simp only[eC,Ak] at e;subst e;refine⟨by simp only[Instr.sameNow,bytes_beq],λhb=>?_⟩
   have:s=s':=by simpa using hb
   subst this;show((⟨⟨s⟩⟩:ByteArray)==⟨⟨s⟩⟩)=true;rw[bytes_beq];simp
  |_=>simp[eC] at e
theorem mapRel.tail{p:AVal×AVal}{es:List (AVal×AVal)}{e:MapEntry}{AD:List MapEntry}(h:mapRel Z (p::es) (e::AD)):mapRel Z es AD :=
 ⟨by simpa using h.1,λi p' e' h1 h2=>h.2 (i+1) p' e' (by simpa using h1) (by simpa using h2)⟩
theorem lO{t:TypeId}{d:TypeDesc}{x:AVal}{vx:Value}(h:keyT P t x=true)(hu:P.underlying t=some d)(hx:VRel Z J x vx):∀{es:List (AVal×AVal)}{AD:List MapEntry}{i:Nat}{o:Option AVal},mapRel Z es AD->fZ x es=some o ->
  match o with
  |none=>Instr.findNow d vx AD i=some none
  |some v=>∃j u,Instr.findNow d vx AD i=some (some (j,u))/\VRel Z [] v u
 |[],AD,i,o,hm,e=>by
  have:AD=[]:=Cm.1 (by simpa using hm.1.symm)
  subst this;simp[fZ] at e;subst e;rfl
 |(ky,v)::es,[],i,o,hm,e=>by simp[mapRel] at hm
 |(ky,v)::es,en::AD,i,o,hm,e=>by
  simp only[fZ] at e;obtain⟨b,hb,e⟩:=aC e;obtain⟨g1,g2,g3⟩:=hm.2 0 (ky,v) en rfl rfl;obtain⟨s1,_⟩:=zU h hu hx g2 hb;cases b with
  |true =>
   simp at e;subst e;exact⟨i,en.val,by simp[Instr.findNow,s1],g3⟩
  |false =>
   simp only[Aq] at e
   have:=lO h hu hx (i:=i+1) hm.tail e
   cases o with
   |none=>simpa[Instr.findNow,s1] using this
   |some v=>simpa[Instr.findNow,s1] using this
theorem pI{t:TypeId}{d:TypeDesc}{x v:AVal}{vx:Value}(h:keyT P t x=true)(hu:P.underlying t=some d)(hx:VRel Z J x vx):∀{es es':List (AVal×AVal)}{AD:List MapEntry}{i:Nat},mapRel Z es AD->mP x v es=some es' ->
  (Instr.findNow d vx AD i=some none/\es'=es++[(x,v)])\/∃j en u,Instr.findNow d vx AD i=some (some (i+j,u))/\AD[j]?=some en/\es'=es.set j (x,v)/\Instr.sameBits 10000 en.key vx=true
 |[],es',AD,i,hm,e=>by
  have:AD=[]:=Cm.1 (by simpa using hm.1.symm)
  subst this;simp[mP] at e;subst e;exact .inl ⟨rfl,rfl⟩
 |(ky,u)::es,es',[],i,hm,e=>by simp[mapRel] at hm
 |(ky,u)::es,es',en::AD,i,hm,e=>by
  simp only[mP] at e;obtain⟨b,hb,e⟩:=aC e;obtain⟨g1,g2,g3⟩:=hm.2 0 (ky,u) en rfl rfl;obtain⟨s1,s2⟩:=zU h hu hx g2 hb;cases b with
  |true =>
   simp at e;subst e;exact .inr ⟨0,en,en.val,by simp[Instr.findNow,s1],rfl,rfl,s2 rfl⟩
  |false =>
   simp only[Aq,Al] at e;obtain⟨l,hl,rfl⟩:=e;rcases pI h hu hx (i:=i+1) hm.tail hl with⟨k1,rfl⟩|⟨j,Wk,u',k1,k2,rfl,k3⟩
   ·exact .inl ⟨by simpa[Instr.findNow,s1] using k1,rfl⟩
   ·refine .inr ⟨j+1,Wk,u',?_,by simpa using k2,rfl,k3⟩
    simp only[Instr.findNow,s1];rw[k1,show i+1+j=i+(j+1) by omega]
theorem lI{o:Option AObj}{k:List (AVal×AVal)->Option R}(e:lH o k=some r):∃es,o=some (.map es)/\k es=some r:=by
 unfold lH at e
 split at e
 ·exact⟨_,rfl,e⟩
 ·cases e
theorem run_getObj{b:Nat}{o:Obj}(h:w.heap[b]?=some o)(hn:∀c t f,o≠.cells c t f):(getObj b).run P w=.ok o w:=by
 simp[getObj,Sem.run,h]
 try(cases o<;>simp_all)
theorem run_setObj{b:Nat}{o o':Obj}(h:w.heap[b]?=some o)(hn:∀c t f,o≠.cells c t f):(setObj b o').run P w=.ok () (w.putObj b o'):=by
 simp[setObj,Sem.run,h,World.putObj]
theorem yj(h:Rel P ans B0 w Z J ow an (sl an tm rs) tmps rs.sto.objs){x:Operand}{i:Nat}{es:List (AVal×AVal)}(hx:A9 an.keep tm rs x=.val (.amap i))(ho:rs.sto.objs[i]?=some (.map es)) :
  ∃b AD clock,J[i]?=some b/\ev tmps ds x=.map (some b)/\w.heap[b]?=some (.map AD clock)/\ow b=some (true,i,0)/\B0<=b/\(∀o,Z b o=hno)/\mapRel Z es AD.toList:=by
 obtain⟨tx,BR,_⟩:=bH (ds:=ds) h x;rw[hx] at BR;generalize DW:(⟨tmps,ds⟩:Act).eval x=vx at BR;cases BR with
 |val _ _ hv=>cases hv with
  |amap _ b hb =>
   obtain⟨b',h1,h2⟩:=h.objs.2 i _ ho;obtain rfl:b=b':=by rw[hb] at h1;exact Ap h1
   cases h2 with
   |map _ _ AD clock hh DL h0 hf hm=>exact⟨b,AD,clock,hb,DW,hh,DL,h0,hf,hm⟩
theorem yp(h:Rel P ans B0 w Z J ow an (sl an tm rs) tmps rs.sto.objs){t:TypeId}{x:Option Operand}(AW:rs.sto.lo<=rs.sto.objs.length)(X:Ex P tmps ds w ⟨dst,.makeMap t x,ty,pos,AH,gd⟩ m mk)(e:aD P ans an drawn AF DS cf tm tk ⟨dst,.makeMap t x,ty,pos,AH,gd⟩ rs kp k=some r):Goal P ans an w B0 Z J ow tmps tm rs dst m mk mp kp k r:=by
 simp only[aD] at e
 have fin:(execOp (ev tmps ds) ⟨dst,.makeMap t x,ty,pos,AH,gd⟩).run P w=.ok (.value (.map (some w.heap.size))) (w.alloc (.map #[] 0))->k (.val (.amap rs.sto.objs.length)) { rs with sto:={ rs.sto with objs:=rs.sto.objs++[.map []] } }=some r->Goal P ans an w B0 Z J ow tmps tm rs dst m mk mp kp k r:=λAZ e=>by
  have hl:=h.objs.1
  have hn:ORel (w.alloc (.map #[] 0)) B0 Z (J++[w.heap.size]) (oset ow w.heap.size (some (true,rs.sto.objs.length,0))) ans rs.sto.objs.length (.map []) w.heap.size :=
   .map [] _ #[] 0 (heap_alloc_new _) (by simp[oset]) h.base (h.wsat.none_of_ge (Ae _)) ⟨rfl,λi p e h1=>by simp at h1⟩
  obtain⟨g1,g2⟩:=uC (o:=.map #[] 0) h ow (λb hb=>hb) (λkk i _=>Same.refl _ _ _ _ _) hn;refine .inl ⟨_,_,_,_,Z,J++[w.heap.size],_,e,g1,?_,(λu o he=>by cases he),(λcs he=>by cases he),g2,eG _ _,⟨rfl,by simp,λi hi=>by rw[Bg (by omega)]⟩,X.val _ _ AZ⟩;refine .val _ _ (.amap _ _ ?_);rw[Bh (by rw[hl];exact Ae _)];simp[hl]
 cases x with
 |none=>exact fin (by simp[execOp,Instr.makeMap]) e
 |some x =>
  simp only at e;obtain⟨tx,BR,_⟩:=bH (ds:=ds) h x;obtain⟨kd,n,e,hv⟩:=eJ BR e;obtain⟨hg,e⟩:=aB e;unfold aEH at hg
  split at hg
  ·rename_i hu
   exact fin (by simp[execOp,ev,hv,Instr.makeMap,run_underlying hu,Go.asInt,asIntOf]) e
  ·cases hg
theorem aCp(h:Rel P ans B0 w Z J ow an (sl an tm rs) tmps rs.sto.objs){t:TypeId}{x key:Operand}{ok:Bool}(X:Ex P tmps ds w ⟨dst,.lookup t x key ok,ty,pos,AH,gd⟩ m mk)(e:aD P ans an drawn AF DS cf tm tk ⟨dst,.lookup t x key ok,ty,pos,AH,gd⟩ rs kp k=some r):Goal P ans an w B0 Z J ow tmps tm rs dst m mk mp kp k r:=by
 simp only[aD] at e
 split at e
 ·rename_i kt el i hu hx
  obtain⟨es,ho,e⟩:=lI e;obtain⟨tk',VY,_⟩:=bH (ds:=ds) h key;obtain⟨kv,e,HJ⟩:=jK VY e;obtain⟨hg,e⟩:=aB e;obtain⟨o,DL,e⟩:=aC e;obtain⟨z,hz,e⟩:=aC e;obtain⟨b,AD,clock,hb,JB,hh,I1,h0,hf,hm⟩:=yj (ds:=ds) h hx ho;obtain⟨_,d,FZ,_⟩:=wQ hg;have BI:=run_getObj (P:=P) hh (by simp);have EB:=run_checkKey (w:=w) hg HJ AD.isEmpty 9999;simp only[zeroOf,Ch] at hz;obtain⟨zv,HF,GU⟩:=hz
  have hz1':(P.info? el).bind (·.zero)=some zv:=by
   obtain⟨ti,a1,a2⟩:=HF;rw[a1];exact a2
  have MM:=lO (i:=0) hg FZ HJ hm DL
  have G0:∀a,Instr.findNow d (ev tmps ds key) AD.toList 0=some a->(Instr.findKey kt (ev tmps ds key) AD.toList).run P w=.ok a w:=λa ha=>by
   simp[Instr.findKey,run_underlying FZ,ha]
  have key:∃u,VRel Z J (o.getD z) u/\∀bb,(Instr.lookup t (.map (some b)) (ev tmps ds key) bb).run P w=.ok (if bb then .tuple #[u,.bool o.isSome] else u) w:=by
   cases o with
   |none =>
    refine⟨zv,fX GU,λbb=>?_⟩;simp only[Instr.lookup,Sem.run_bind,run_underlying hu,Result.andThen_ok,BI,Sem.run_pure,EB,G0 _ MM,aS hz1'];rfl
   |some v =>
    obtain⟨j,u,h1,h2⟩:=MM;refine⟨u,h2.mono Z.le_refl (pre_nil _),λbb=>?_⟩;simp only[Instr.lookup,Sem.run_bind,run_underlying hu,Result.andThen_ok,BI,Sem.run_pure,EB,G0 _ h1];rfl
  obtain⟨u,Mj,AZ⟩:=key;cases ok with
  |true =>
   simp only at e;refine .plain h e (.tup _ [u,.bool o.isSome] rfl λi x v h1 h2=>?_) (λ_ _ e=>by cases e) (λ_ e=>by cases e) (X.val _ _ (by simp only[execOp,JB,Sem.run_bind,AZ];rfl))
   match i,h1,h2 with
   |0,h1,h2=>simp at h1 h2;subst h1;subst h2;exact Mj
   |1,h1,h2=>simp at h1 h2;subst h1;subst h2;exact .bool _
   |i+2,h1,_=>simp at h1
  |false =>
   simp only at e;exact .val h e Mj (X.val _ _ (by simp only[execOp,JB,Sem.run_bind,AZ];rfl))
 ·cases e
theorem nb(h:Rel P ans B0 w Z J ow an (sl an tm rs) tmps rs.sto.objs){t:TypeId}{x key y:Operand}(X:Ex P tmps ds w ⟨dst,.mapUpdate t x key y,ty,pos,AH,gd⟩ m mk)(e:aD P ans an drawn AF DS cf tm tk ⟨dst,.mapUpdate t x key y,ty,pos,AH,gd⟩ rs kp k=some r):Goal P ans an w B0 Z J ow tmps tm rs dst m mk mp kp k r:=by
 simp only[aD] at e
 split at e
 ·rename_i kt el i hu hx
  obtain⟨es,ho,e⟩:=lI e;obtain⟨tk',VY,_⟩:=bH (ds:=ds) h key;obtain⟨E5,Ml,_⟩:=bH (ds:=ds) h y;obtain⟨kv,e,HJ⟩:=jK VY e;obtain⟨v,e,hv⟩:=jK Ml e;obtain⟨hg,e⟩:=aB e;simp only[Ac] at hg;obtain⟨⟨Ph,DX⟩,L4⟩:=hg;obtain⟨es',VT,e⟩:=aC e;obtain⟨b,AD,clock,hb,JB,hh,I1,h0,hf,hm⟩:=yj (ds:=ds) h hx ho;obtain⟨Pd,d,FZ,_⟩:=wQ Ph;have BI:=run_getObj (P:=P) hh (by simp);have dA:=λo'=>run_setObj (P:=P) (o':=o') hh (by simp)
  have EB:=run_checkKey (w:=w) Ph HJ false 9999
  have G0:∀a,Instr.findNow d (ev tmps ds key) AD.toList 0=some a->(Instr.findKey kt (ev tmps ds key) AD.toList).run P w=.ok a w:=λa ha=>by
   simp[Instr.findKey,run_underlying FZ,ha]
  have Pa:VRel Z [] kv (ev tmps ds key):=HJ.flat (ye Pd);have hv0:VRel Z [] v (ev tmps ds y):=hv.clean DX;have AR:b<w.heap.size:=(Ad.1 hh).1;have MK:i<rs.sto.objs.length:=(Ab.1 ho).1
  have fin:∀ents' FP,(Instr.mapUpdate t (.map (some b)) (ev tmps ds key) (ev tmps ds y)).run P w=.ok () (w.putObj b (.map ents' FP))->mapRel Z es' ents'.toList->Goal P ans an w B0 Z J ow tmps tm rs dst m mk mp kp k r:=λents' FP AZ JH=>by
   have same:∀kk j,¬(kk=true/\j=i)->Same w Z ow (w.putObj b (.map ents' FP)) Z ow kk j kk j:=λkk j hk b' s AX =>
    ⟨AX,World.putObj_heap_other (λe=>by subst e;rw[I1] at AX;simp only[Ak,Bp] at AX;exact hk ⟨AX.1.symm,AX.2.1.symm⟩),λ_ h=>h⟩
   refine .inl ⟨.dead,_,undef,w.putObj b (.map ents' FP),Z,J,ow,e,⟨h.size,h.wsat.put hf,λu=>?_,h.refs,h.boxes,?_,λx hx=>by rw[World.putObj_size];exact h.lt x hx,by rw[World.putObj_size];exact h.base,h.hi⟩,.dead _,(λu o he=>by cases he),(λcs he=>by cases he),Fr.put (by simp[I1]) (λ_ h=>h),aI _,⟨rfl,by simp,λj hj=>?_⟩,X.skip _ (by simp only[execOp,JB,Sem.run_bind,AZ];rfl)⟩
   ·exact(h.slots u).mono Z.le_refl (aI _) (same false u (by simp)) (λ_ _ _=>rfl)
   ·exact h.objs.set MK hb (.map _ _ ents' FP (World.putObj_heap_same AR) I1 h0 hf JH) λj hj=>same true j (by simp[hj])
   ·have:=Ah L4
    simp[Cw,show ¬i=j by omega]
  rcases pI (i:=0) Ph FZ HJ hm VT with⟨k1,rfl⟩|⟨j,en,u,k1,k2,rfl,k3⟩
  ·refine fin (AD.push { key:=ev tmps ds key,val:=ev tmps ds y,born:=clock }) (clock+1) ?_ ⟨by simp[hm.1],λj p en hp GO=>?_⟩
   ·simp only[Instr.mapUpdate,Sem.run_bind,run_underlying hu,Result.andThen_ok,BI,EB,G0 _ k1,dA]
   ·have hl:=hm.1
    rcases Ck j es.length with hj|hj
    ·rw[Bg hj] at hp
     rw[Array.toList_push,Bg (by omega)] at GO;exact hm.2 j p en hp GO
    ·rw[Bh hj] at hp
     rw[Array.toList_push,Bh (by omega)] at GO;have hj0:j-es.length=0:=by have:=(Ab.1 hp).1;simp at this;omega
     rw[hj0] at hp;rw[show j-AD.toList.length=0 by omega] at GO;simp at hp GO;subst hp;subst GO;exact⟨Pd,Pa,hv0⟩
  ·have hj:j<AD.size:=by have:=(Ab.1 k2).1;simpa using this
   refine fin (AD.modify j λe=>{ e with key:=ev tmps ds key,val:=ev tmps ds y }) clock ?_ ⟨by simp[hm.1],λj' p Wk hp GO=>?_⟩
   ·have GA:((AD[0+j]?).map (·.key)).getD (ev tmps ds key)=en.key:=by
     have:AD[j]?=some en:=by simpa using k2
     simp[this]
    have A7:(Instr.keyThatStays (((AD[0+j]?).map (·.key)).getD (ev tmps ds key)) (ev tmps ds key)).run P w=.ok (ev tmps ds key) w:=by
     rw[GA];simp[Instr.keyThatStays,k3]
    simp only[Instr.mapUpdate,Sem.run_bind,run_underlying hu,Result.andThen_ok,BI,EB,G0 _ k1,A7,dA];simp
   ·rw[Cw] at hp
    split at hp
    ·subst_vars
     split at hp
     ·simp at hp;subst hp
      simp[Da,hj] at GO;subst GO;exact⟨Pd,Pa,hv0⟩
     ·cases hp
    ·rename_i BD
     refine hm.2 j' p Wk hp ?_;simp[Da,BD] at GO;simpa using GO
 ·cases e
theorem aFu(h:Rel P ans B0 w Z J ow an (sl an tm rs) tmps rs.sto.objs){x:Operand}(X:∀v,(execOp (ev tmps ds) ⟨dst,.panic x,ty,pos,AH,gd⟩).run P w=.halt (.panic v) w->Steps P m (mp v w))(e:aD P ans an drawn AF DS cf tm tk ⟨dst,.panic x,ty,pos,AH,gd⟩ rs kp k=some r):Goal P ans an w B0 Z J ow tmps tm rs dst m mk mp kp k r:=by
 simp only[aD] at e
 split at e
 ·rename_i t v hx
  obtain⟨tx,BR,_⟩:=bH (ds:=ds) h x;rw[hx] at BR;generalize DW:(⟨tmps,ds⟩:Act).eval x=vx at BR;cases BR with
  |val _ _ hv =>
   have FW:=hv;cases hv with
   |iface _ _ u hu =>
    exact .inr ⟨_,rs,_,w,Z,J,ow,e,h,FW,Fr.refl _ _ _,aI _,StoLe.refl _,X _ (by simp[execOp,ev,DW,Instr.panic])⟩
 ·cases e
theorem kT{J J':List Nat}(h:pre J J'){n:Nat}(hn:n<=J.length):J'.take n=J.take n:=by
 apply Fp;intro i;rw[Bm,Bm];split
 ·rename_i hi
  have:i<J.length:=by omega
  rw[h i J[i] (by simp[this])];simp[this]
 ·rfl
theorem SRel.lokS{n:Nat}{t:Nat}{s:Slot}{v:Value}(h:SRel w B0 Z J ow tmps t s v)(hf:s.free=true)(hl:dB n s=true):SRel w B0 Z (J.take n) ow tmps t s v:=by
 cases h with
 |dead=>simp[Slot.free] at hf
 |val x v h=>exact .val x v (h.lok hl)
 |tup xs vs hl' h =>
  refine .tup xs vs hl' λi x v h1 h2=>(h i x v h1 h2).lok ?_
  exact An.1 (show xs.all (lok n)=true from hl) x (Be h1)
 |own sz xs v h=>exact .own sz xs v h
 |full xs a n h=>exact .full xs a n h
 |nl=>exact .nl
 |nn xs a n c h=>exact .nn xs a n c h
 |cells=>simp[Slot.free] at hf
 |box=>simp[Slot.free] at hf
 |ref=>simp[Slot.free] at hf
theorem OsRel.old{J':List Nat}{objs EV:List AObj}(h:OsRel w B0 Z J' ow ans EV)(hp:pre J J')(hl:J.length=objs.length)(hk:∀i,i<objs.length->EV[i]?=objs[i]?):OsRel w B0 Z J ow ans objs:=by
 refine⟨hl,λi o ho=>?_⟩;have hi:=(Ab.1 ho).1;obtain⟨b,h1,h2⟩:=h.2 i o (by rw[hk i hi];exact ho)
 have hb:J[i]?=some b:=by
  have EJ:i<J.length:=by omega
  have:=hp i J[i] (by simp[EJ])
  rw[h1] at this;simp[EJ,Ap this]
 refine⟨b,hb,h2.mono Z.le_refl ?_ (Same.refl _ _ _ _ _)⟩;rw[kT hp (by omega)];exact aI _
theorem lL(h:Rel P ans B0 w Z J ow an (sl an tm rs) tmps rs.sto.objs){cc:Callee}{args:List Slot}{c:Frame}{cs:List Frame}{m1:Machine}
  (e:dJ AF cf cc args rs kp k=some r)
  (MD:∀sto res AL,sto.objs=rs.sto.objs->sto.lo<=sto.objs.length->cf cc args sto=some (res,AL)->eI P ans B0 w Z J (sA an.nt ow) sto c cs m1 res AL) (AW:rs.sto.lo<=rs.sto.objs.length)
  (A7:Steps P m m1) (NB:∀v w',lone (c.finish v) cs w'=mk v w') (Nx:∀v w',lone (c.raise [{ v,recovered:=false }]) cs w'=mp v w') :
  Goal P ans an w B0 Z J ow tmps tm rs dst m mk mp kp k r:=by
 cases AF with
 |false =>
  simp only[dJ] at e;obtain⟨⟨res,AL⟩,hc,e⟩:=aC e;obtain⟨w',Z',J',D8,hF,hp,hw,MF,AR,CW,CB⟩:=MD _ _ _ rfl AW hc;obtain⟨hR,Ld⟩:=xW h hF hp hw hp MF AR;cases res with
  |ret s =>
   obtain⟨_,e⟩:=aB e;obtain⟨D4,v,hs,CQ⟩:=CB;refine .inl ⟨s,{ rs with sto:=AL },v,w',Z',J',_,e,hR,?_,(λu o he=>by subst he;simp[Slot.free] at D4),(λcs he=>by subst he;simp[Slot.free] at D4),Ld,hp,CW,A7.trans (by rw[<-NB];exact CQ)⟩;refine SRel.mono (hs.free_tmps (tmps':=tmps) D4) Z'.le_refl (aI _) (λb s hb=>⟨by simp[fS,hb],rfl,λ_ h=>h⟩) (λ_ _ _=>rfl)
  |pan x =>
   obtain⟨v,hv,CQ⟩:=CB;exact .inr ⟨x,{ rs with sto:=AL },v,w',Z',J',_,e,hR,hv,Ld,hp,CW,A7.trans (by rw[<-Nx];exact CQ)⟩
 |true =>
  simp only[dJ] at e;obtain⟨⟨res,AL⟩,hc,e⟩:=aC e;obtain⟨w',Z',J',D8,hF,hp,hw,MF,AR,CW,CB⟩:=MD { rs.sto with lo:=rs.sto.objs.length } _ _ rfl (Ae _) hc;cases res with
  |ret s =>
   obtain⟨hg,e⟩:=aB e;simp only[Ac] at hg
   replace hg:=hg.1
   obtain⟨D4,v,hs,CQ⟩:=CB;have KN:=h.objs.1;have Vc:=MF.old (J:=J) (objs:=rs.sto.objs) hp KN (λi hi=>CW.keep i hi);obtain⟨hR,Ld⟩:=xW h hF hp hw (aI _) Vc AR;refine .inl ⟨s,rs,v,w',Z',J,_,e,hR,?_,(λu o he=>by subst he;simp[Slot.free] at D4),(λcs he=>by subst he;simp[Slot.free] at D4),Ld,aI _,StoLe.refl _,A7.trans (by rw[<-NB];exact CQ)⟩;have HH:=(hs.free_tmps (tmps':=tmps) D4).lokS D4 hg;rw[kT hp (by rw[KN];exact Ae _),Ci (by rw[KN];exact Ae _)] at HH;exact HH.mono Z'.le_refl (aI _) (λb s hb=>⟨by simp[fS,hb],rfl,λ_ h=>h⟩) (λ_ _ _=>rfl)
  |pan x=>cases e
theorem lK{o:Option TypeId}{β:Type}{f:TypeId->Option β}{b:β}(h:o.bind f=some b):∃t,o=some t/\f t=some b:=by
 cases o with
 |none=>cases h
 |some t=>exact⟨t,rfl,h⟩
theorem aIa(h:Rel P ans B0 w Z J ow an (sl an tm rs) tmps rs.sto.objs){c:Call}(BK:kZ P ans B0 cf)(AW:rs.sto.lo<=rs.sto.objs.length){fr:Frame}{cs:List Frame}(X:Ex P tmps ds w ⟨dst,.call c,ty,pos,AH,gd⟩ m mk)
  (Xe:∀f args,(execOp (ev tmps ds) ⟨dst,.call c,ty,pos,AH,gd⟩).run P w=.ok (.enter f args) w->Steps P m (lone (Frame.enter P f args .normal) (fr::cs) w))
  (Xr:∀l f tmps' x y,(execOp (ev tmps ds) ⟨dst,.call c,ty,pos,AH,gd⟩).run P w=.ok (.round l f tmps' x y) w->Steps P m (lone (Frame.round l f tmps' x y .normal) (fr::cs) w))
  (NB:∀v w',lone (fr.finish v) cs w'=mk v w') (Nx:∀v w',lone (fr.raise [{ v,recovered:=false }]) cs w'=mp v w')
  (e:aD P ans an drawn AF DS cf tm tk ⟨dst,.call c,ty,pos,AH,gd⟩ rs kp k=some r):Goal P ans an w B0 Z J ow tmps tm rs dst m mk mp kp k r:=by
 obtain⟨Nf,⟨FU⟩,K3⟩:=c;simp only[aD] at e
 split at e
 ·rename_i x
  obtain⟨tx,BR,_⟩:=bH (ds:=ds) h x
  have hex:∀v,(Builtin.len_ K3 ty #[ev tmps ds x]).run P w=.ok v w->Steps P m (mk v w):=λv hv=>X.val _ _ (by
   simp[execOp,resolve,invoke,builtin];simp[ev] at hv;simp[hv])
  split at e
  ·rename_i hu
   obtain⟨t,ht,hu⟩:=lK hu
   split at e
   ·rename_i s hx
    rw[hx] at BR;generalize DW:(⟨tmps,ds⟩:Act).eval x=vx at BR;cases BR with
    |val _ _ hv=>cases hv with
     |str=>exact .val h e (.int _ _) (hex _ (by simp[Builtin.len_,ht,run_underlying hu,ev,DW,goInt];rfl))
   ·cases e
  ·rename_i el hu
   obtain⟨t,ht,hu⟩:=lK hu;obtain⟨xs,e,C9⟩:=wM BR e;generalize DW:(⟨tmps,ds⟩:Act).eval x=vx at C9;cases C9 with
   |slice _ a len cap s' hl hc hx=>exact .val h e (by rw[hl];exact .int _ _) (hex _ (by simp[Builtin.len_,ht,run_underlying hu,ev,DW,goInt]))
  ·rename_i n el hu
   obtain⟨t,ht,hu⟩:=lK hu;exact .val h e (.int _ _) (hex _ (by simp[Builtin.len_,ht,run_underlying hu,goInt]))
  ·rename_i kt el hu
   obtain⟨t,ht,hu⟩:=lK hu
   split at e
   ·rename_i i hx
    obtain⟨es,ho,e⟩:=lI e;obtain⟨b,AD,clock,hb,JB,hh,I1,h0,hf,hm⟩:=yj (ds:=ds) h hx ho;refine .val h e (by rw[hm.1];exact .int _ _) (hex _ ?_);rw[JB];simp[Builtin.len_,ht,run_underlying hu,run_getObj (P:=P) hh (by simp),goInt]
   ·cases e
  ·cases e
 ·rename_i s x
  obtain⟨tx,BR,_⟩:=bH (ds:=ds) h x;obtain⟨tS,HO,A7⟩:=bH (ds:=ds) h s
  split at e
  ·rename_i el el2 D9 DQ
   obtain⟨t1,DM,D9⟩:=lK D9;obtain⟨t2,C5,DQ⟩:=lK DQ
   have sle:∀{t q:TypeId},aT P t=some q->P.underlying t=some (.slice q):=λhq=>by
    unfold aT at hq
    split at hq
    ·rename_i e' he;cases hq;exact he
    ·cases hq
   obtain⟨sz,BG,e⟩:=aC e;obtain⟨z,hz,e⟩:=aC e;obtain⟨ys,e,LG⟩:=wM BR e;obtain⟨hg,e⟩:=aB e;simp only[Ac] at hg;obtain⟨⟨⟨⟨g1,g2⟩,g3⟩,g4⟩,g5⟩:=hg;have CR:0<sz:=by simpa[Dc] using g1
   have G4:0<aU P el:=by simpa[Dc] using g4
   have VK:∀y∈ys,y.cells.length=sz:=λy hy=>Aa (An.1 g5 y hy)
   simp only[zeroOf,Ch] at hz;obtain⟨zv,HF,GU⟩:=hz
   have hz1':(P.info? el).bind (·.zero)=some zv:=by
    obtain⟨ti,a1,a2⟩:=HF;rw[a1];exact a2
   have HD:zv.cells.size=sz:=by
    have:=(fX (Z:=Z) (J:=J) GU).cells.1
    rw[<-this];exact Aa g2
   have hex:∀v w',(Builtin.append_ K3 ty #[ev tmps ds s,ev tmps ds x]).run P w=.ok v w'->Steps P m (mk v w'):=λv w' hv=>X.val _ _ (by
    simp[execOp,resolve,invoke,builtin];simp[ev] at hv;simp[hv])
   have core:∀{rs1:RS}{BX:Own}{xs:List AVal},rs1.sto=rs.sto->Rel P ans B0 w Z J BX an (sl an tm rs1) tmps rs1.sto.objs->Fr w Z ow w Z BX->(VRel Z [] (.slice xs) (ev tmps ds s)/\(∀x∈xs,x.cells.length=sz)/\∃a len cap,ev tmps ds s=.slice a len cap/\(len=cap\/∃b o cs E,a=some ⟨b,o,none⟩/\BX b=some (false,an.nt,1)/\w.heap[b]?=some (.cells cs E (0,0))/\B0<=b/\o+cap*sz<=cs.size/\∀o',o+len*sz<=o'->Z b o'=hno))->(ys=[]->OwnRel w B0 Z BX (false,an.nt,1) sz xs (ev tmps ds s))->xs.length+ys.length<=room ->
     k (.own sz (xs++ys)) rs1=some r->Goal P ans an w B0 Z J ow tmps tm rs dst m mk mp kp k r:=λV1 h1 hF ho NM DV hk=>by
    obtain⟨v',w',Z',AP,AZ,hR,hO,Ld⟩:=pz h1 ho NM LG VK (ty:=ty) DM C5 (sle D9) (sle DQ) BG CR hz1' HD (Ah g3) G4 DV;exact .inl ⟨_,_,v',w',Z',J,AP,hk,hR,.own _ _ _ hO,(λu o he=>by cases he),(λcs he=>by cases he),hF.trans Ld,aI _,by rw[V1];exact StoLe.refl _,hex _ _ AZ⟩
   have e3:(∃EK xs t,A9 an.keep tm rs s=.own EK xs/\s=.tmp t/\aL (Nat.beq sz EK&&Nat.ble (xs.length+ys.length) room) (k (.own sz (xs++ys)) (rs.put t (.val (.slice xs))))=some r) \/
     (∃xs,A9 an.keep tm rs s=.full xs/\aL (xs.all (λy=>Nat.beq y.cells.length sz)&&Nat.ble (xs.length+ys.length) room&&(xs.isEmpty||!ys.isEmpty)) (k (.own sz (xs++ys)) rs)=some r) \/
     (A9 an.keep tm rs s=.nl/\aL (Nat.ble ys.length room) (k (.own sz ys) rs)=some r):=by
    split at e
    ·exact .inl ⟨_,_,_,by assumption,rfl,e⟩
    ·exact .inr (.inl ⟨_,by assumption,e⟩)
    ·exact .inr (.inr ⟨by assumption,e⟩)
    ·cases e
   rcases e3 with⟨EK,xs,t,hs,LK,e3⟩|⟨xs,hs,e3⟩|⟨hs,e3⟩
   ·obtain rfl:=A7 t LK
    subst LK;obtain⟨hg,e3⟩:=aB e3;simp only[Ac] at hg;have IQ:=Aa hg.1;have JF:sl an tm rs tS=.own EK xs:=hs;have JB:VRel Z J (.slice xs) (tmps.getD tS undef):=by have:=h.slots tS;rw[JF] at this;cases this with|own _ _ _ hv=>exact hv.val
    obtain⟨h1,h2⟩:=h.take tS (h.lt_of (by rw[JF];simp)) (.slice xs) JB (by rw[JF];simp) an.nt;rw[JF] at h2
    have hO:OwnRel w B0 Z (ren ow false tS false an.nt 0) (false,an.nt,1) sz xs (tmps.getD tS undef):=by
     rw[IQ];cases h2 with|own _ _ _ hv=>exact hv
    refine core (rs1:=rs.put tS (.val (.slice xs))) rfl ?_ (Fr.ren _ _ _) hO.weak (λ_=>hO) (Ah hg.2) e3;rw[show sl an tm (rs.put tS (.val (.slice xs)))=upd (sl an tm rs) tS (.val (.slice xs)) from dS _ _ _ _ _];exact h1
   ·obtain⟨hg,e3⟩:=aB e3
    simp only[Ac] at hg;have PE:∀y∈xs,y.cells.length=sz:=λy hy=>Aa (An.1 hg.1.1 y hy)
    rw[hs] at HO
    have hee:ys=[]->xs=[]:=λe=>by
     have:=hg.2
     rw[e] at this;simpa using this
    refine core rfl h (Fr.refl _ _ _) ?_ ?_ (Ah hg.1.2) e3
    all_goals
     generalize DW:(⟨tmps,ds⟩:Act).eval s=vx at HO;cases HO with
     |full _ a n hv =>
      rw[ev,DW]
      first
       |exact⟨hv,PE,a,n,n,rfl,.inl rfl⟩
       |exact λe=>⟨hv,PE,a,n,n,rfl,.inl ⟨hee e,rfl⟩⟩
   ·obtain⟨hg,e3⟩:=aB e3
    rw[hs] at HO;have KO:OwnRel w B0 Z ow (false,an.nt,1) sz [] (ev tmps ds s):=?_;refine core (xs:=[]) rfl h (Fr.refl _ _ _) KO.weak (λ_=>KO) (by simpa using Ah hg) e3;generalize DW:(⟨tmps,ds⟩:Act).eval s=vx at HO;cases HO with
    |nl=>rw[ev,DW];exact zK _ _
  ·cases e
 ·rename_i x y
  obtain⟨tx,BR,_⟩:=bH (ds:=ds) h x;obtain⟨tY,Ml,_⟩:=bH (ds:=ds) h y;obtain⟨kd,n,e,hn⟩:=eJ BR e;obtain⟨HB,m,e,hm⟩:=eJ Ml e;refine .val h e (.int _ _) (X.val _ _ ?_);have hb:(bif decide (m>n) then m else n)=(if m>n then m else n):=by by_cases hc:m>n<;>simp[hc]
  rw[hb];simp[execOp,resolve,invoke,builtin,Builtin.max_,Builtin.max2,ev,hn,hm]
 ·rename_i x y
  obtain⟨tx,BR,_⟩:=bH (ds:=ds) h x;obtain⟨tY,Ml,_⟩:=bH (ds:=ds) h y;obtain⟨kd,n,e,hn⟩:=eJ BR e;obtain⟨HB,m,e,hm⟩:=eJ Ml e;refine .val h e (.int _ _) (X.val _ _ ?_);have hb:(bif decide (m<n) then m else n)=(if m<n then m else n):=by by_cases hc:m<n<;>simp[hc]
  rw[hb];simp[execOp,resolve,invoke,builtin,Builtin.min_,Builtin.min2,ev,hn,hm]
 ·rename_i f
  obtain⟨tf,KJ,_⟩:=bH (ds:=ds) h f
  split at e
  ·rename_i g caps hf
   rw[hf] at KJ;generalize DW:(⟨tmps,ds⟩:Act).eval f=vf at KJ;cases KJ with
   |val _ _ hv=>cases hv with
    |func _ _ cv B5 I6 =>
     obtain⟨l,rs1,BX,e,h1,CW,hl,D4,ha,hF,_⟩:=rI (ds:=ds) h e;have BM:=λsto Jf Hz=>gj (ds:=ds) h1 sto Jf Hz hl D4 ha B5 I6
     have hG:Goal P ans an w B0 Z J BX tmps tm rs1 dst m mk mp kp k r:=by
      cases DY:cf (.fn g) (l++caps.map .val) (if AF then{ rs1.sto with lo:=rs1.sto.objs.length } else rs1.sto) with
      |none=>cases AF<;>simp only[Dk,Bc,Dd] at DY<;>simp[dJ,DY] at e
      |some p =>
       have GC:=(BK.fn g _ _ p.1 p.2 DY).1;obtain⟨F,MP,QD,NW⟩:=GC;refine lL (c:=fr) (cs:=cs) (m1:=lone (Frame.enter P g ⟨FU.map (⟨tmps,ds⟩:Act).eval++cv⟩ .normal) (fr::cs) w) h1 e (λsto res AL Jf Hz hc=>(BK.fn g _ _ _ _ hc).2 w Z J _ _ (BM sto Jf Hz) fr cs) (by rw[CW];exact AW) (Xe _ _ ?_) NB Nx;obtain⟨bd,HK⟩:=Fm.1 QD;simp[execOp,resolve,ev,DW,Deferred.ofValue,invoke,callFunc,MP,NW,HK]
     rcases hG with⟨s,rs',v,w',Z',J',AP,a1,a2,a3,a4,a5,a6,a7,a8,a9⟩|⟨x,rs',v,w',Z',J',AP,a1,a2,a3,a6,a7,a8,a9⟩
     ·exact .inl ⟨s,rs',v,w',Z',J',AP,a1,a2,a3,a4,a5,hF.trans a6,a7,by rw[<-CW];exact a8,a9⟩
     ·exact .inr ⟨x,rs',v,w',Z',J',AP,a1,a2,a3,hF.trans a6,a7,by rw[<-CW];exact a8,a9⟩
  ·rename_i i hf
   rw[hf] at KJ;generalize DW:(⟨tmps,ds⟩:Act).eval f=vf at KJ;cases KJ with
   |val _ _ hv=>cases hv with
    |yld _ b hb =>
     obtain⟨l,rs1,BX,e,h1,CW,hl,D4,ha,hF,_⟩:=rI (ds:=ds) h e;have BM:=λsto Jf Hz=>gj (ds:=ds) h1 sto Jf Hz hl D4 ha (caps:=[]) (cv:=[]) rfl (λi c v hc=>by simp at hc)
     simp only[Au,Bv] at BM
     have hG:Goal P ans an w B0 Z J BX tmps tm rs1 dst m mk mp kp k r:=by
      cases DY:cf (.yld i) l (if AF then{ rs1.sto with lo:=rs1.sto.objs.length } else rs1.sto) with
      |none=>cases AF<;>simp only[Dk,Bc,Dd] at DY<;>simp[dJ,DY] at e
      |some p =>
       obtain⟨al,EC,hlen,_⟩:=BK.yld i _ _ p.1 p.2 DY;have NT:rs1.sto.objs[i]?=some (.loop al):=by cases AF<;>exact EC
       obtain⟨b',AX,KM⟩:=h1.objs.2 i _ NT;obtain rfl:b=b':=by rw[hb] at AX;exact Ap AX
       cases KM with
       |loop _ _ rr Lz ho0 h00 KR CY =>
        refine lL (c:=fr) (cs:=cs) (m1:=lone (Frame.round b rr.fn ((rr.params.zip ⟨FU.map (⟨tmps,ds⟩:Act).eval⟩).foldl (λt (p,a)=>t.setIfInBounds p a) rr.tmps) rr.assign rr.body .normal) (fr::cs) w) h1 e
         (λsto res AL Jf Hz hc=>?_) (by rw[CW];exact AW) (Xr _ _ _ _ _ ?_) NB Nx
        ·obtain⟨_,_,_,EO⟩:=BK.yld i _ _ _ _ hc
         exact EO w Z J _ _ (BM sto Jf Hz) b rr hb Lz fr cs
        ·have hsize:FU.length=rr.params.size:=by rw[CY.params,<-hlen,hl]
         have BI:=run_getObj (P:=P) Lz (by simp);simp[execOp,resolve,ev,DW,Deferred.ofValue,invoke,Instr.yield,Instr.getLoop,BI,hsize]
     rcases hG with⟨s,rs',v,w',Z',J',AP,a1,a2,a3,a4,a5,a6,a7,a8,a9⟩|⟨x,rs',v,w',Z',J',AP,a1,a2,a3,a6,a7,a8,a9⟩
     ·exact .inl ⟨s,rs',v,w',Z',J',AP,a1,a2,a3,a4,a5,hF.trans a6,a7,by rw[<-CW];exact a8,a9⟩
     ·exact .inr ⟨x,rs',v,w',Z',J',AP,a1,a2,a3,hF.trans a6,a7,by rw[<-CW];exact a8,a9⟩
  ·cases e
 ·cases e
theorem aF7(h:Rel P ans B0 w Z J ow an (sl an tm rs) tmps rs.sto.objs)(BK:kZ P ans B0 cf)(AW:rs.sto.lo<=rs.sto.objs.length){o:Oper}{b:Frame}{ops:Array Oper}{i:Nat}{rest:List Nat}{items:List Item}{cs:List Frame}
  (ho:ops[i]?=some o) (hw:Region.wanted o (yielded ops tmps)=true)
  (e:aD P ans an drawn AF DS cf tm tk o rs kp k=some r) :
  Goal P ans an w B0 Z J ow tmps tm rs o.dst (lone (b.atR ⟨tmps,ds⟩ (.inRegion ops (i::rest)::items)) cs w) (λv w'=>lone (b.atR ((⟨tmps,ds⟩:Act).put o.dst v) (.inRegion ops rest::items)) cs w')
   (λv w'=>lone { b.atR ⟨tmps,ds⟩ (.inRegion ops (i::rest)::items) with mode:=.panicking [{ v,recovered:=false }] } cs w') kp k r:=by
 have GM:∀c,o.op≠.defer c:=λc hc=>by
  obtain⟨d,op,ty,pos,AH,gd⟩:=o;simp only at hc;subst hc;simp[aD] at e
 have X:Ex P tmps ds w o (lone (b.atR ⟨tmps,ds⟩ (.inRegion ops (i::rest)::items)) cs w) (λv w'=>lone (b.atR ((⟨tmps,ds⟩:Act).put o.dst v) (.inRegion ops rest::items)) cs w') :=
  ⟨λv w' hr=>.one (dI (a:=⟨tmps,ds⟩) ho hw GM hr),λw' hr=>.one (fR (a:=⟨tmps,ds⟩) ho hw GM hr)⟩
 have NB:∀v w',lone ((b.atR ⟨tmps,ds⟩ (.inRegion ops (i::rest)::items)).finish v) cs w'=lone (b.atR ((⟨tmps,ds⟩:Act).put o.dst v) (.inRegion ops rest::items)) cs w':=λv w'=>by
  rw[Frame.finish_atR,ho];rfl
 have Nx:∀v w',lone ((b.atR ⟨tmps,ds⟩ (.inRegion ops (i::rest)::items)).raise [{ v,recovered:=false }]) cs w'=lone { b.atR ⟨tmps,ds⟩ (.inRegion ops (i::rest)::items) with mode:=.panicking [{ v,recovered:=false }] } cs w':=λv w'=>by
  rw[Frame.raise_atR]
 obtain⟨d,op,ty,pos,AH,gd⟩:=o;cases op
 case move=>exact aIc h X e
 case assign=>exact aCo h X e
 case pick=>exact aId h X e
 case alloc=>exact aFp h AW X e
 case box=>exact aL6 h AW X e
 case build=>exact aFr h X e
 case buildSlice=>exact bp h X e
 case load=>exact aIb h X e
 case store=>exact aFw h X e
 case nilCheck=>exact uh h X e
 case binOp=>exact aFq h X e
 case unOp=>exact aIe h X e
 case convert=>exact yn h X e
 case fieldAddr=>exact my h X e
 case field=>exact aFs h X e
 case indexAddr=>exact mz h X e
 case index=>exact aFt h X e
 case slice=>exact aFv h X e
 case makeInterface=>exact uJ h X e
 case makeFunc=>exact ug h X e
 case makeMap=>exact yp h AW X e
 case lookup=>exact aCp h X e
 case mapUpdate=>exact nb h X e
 case extract=>exact yo h X e
 case panic=>exact aFu h (λv hr=>.one (zj (a:=⟨tmps,ds⟩) ho hw GM hr)) e
 case call=>exact aIa h BK AW X (λf args hr=>.one (kI (a:=⟨tmps,ds⟩) ho hw GM hr)) (λl f t x y hr=>.one (mN (a:=⟨tmps,ds⟩) ho hw GM hr)) NB Nx e
 all_goals (simp[aD] at e)
end
section
variable {P:Program}{ans:FuncId->AK}{an:AK}{w:World}{B0:Nat}{Z:HT}{J:List Nat}{ow:Own}{tmps:Array Value}{R:Type}{r:R}
variable {tm:List Slot}{rs:RS}{kp:AVal->RS->Option R}{ds:List Deferred}{drawn:Bool}{cf:aO}
def jP(P:Program)(ans:FuncId->AK)(an:AK)(drawn:Bool)(cf:aO)(tm:List Slot)(rid:Nat)(ops:Array Oper)(kp:AVal->RS->Option R)(kn:RS->Option R):List Nat->RS->Option R
 |[],rs=>kn rs
 |i::l,rs=>match ops[i]? with
  |some o=>gG P ans an drawn cf tm rid ops kp o i rs λrs'=>jP P ans an drawn cf tm rid ops kp kn l rs'
  |none=>none
theorem aAX{rid:Nat}{ops:Array Oper}{kn:RS->Option R}:∀(n i:Nat)(rs:RS),i+n=ops.size->lT P ans an drawn cf tm rid ops kp kn (ops.toList.drop i) i rs=jP P ans an drawn cf tm rid ops kp kn (List.range' i n) rs
 |0,i,rs,h=>by
  rw[List.drop_of_length_le (by simp;omega)];rfl
 |n+1,i,rs,h=>by
  have hi:i<ops.size:=by omega
  rw[Cc (by simpa using hi),Gu];simp only[lT,jP,Array.getElem_toList,Az hi];congr 1;funext rs';exact aAX n (i+1) rs' (by omega)
theorem mF{rid:Nat}{ops:Array Oper}{kn:RS->Option R}(rs:RS):lT P ans an drawn cf tm rid ops kp kn ops.toList 0 rs=jP P ans an drawn cf tm rid ops kp kn (List.range ops.size) rs:=by
 have:=aAX (P:=P) (ans:=ans) (an:=an) (drawn:=drawn) (cf:=cf) (tm:=tm) (rid:=rid) (ops:=ops) (kp:=kp) (kn:=kn) ops.size 0 rs (by omega)
 rw[Ee] at this;rw[this,List.range_eq_range']
def noRef(tm:List Slot):Prop:=∀s∈tm,∀u o,s≠.ref u o
theorem cw:∀{sc:List (Nat×Slot)}{t:Nat}{s:Slot},bL sc t=some s->∃p∈sc,p.1=t
 |[],t,s,h=>by simp[bL] at h
 |(k,x)::sc,t,s,h=>by
  simp only[bL] at h;cases hk:Nat.beq k t with
  |true=>exact⟨(k,x),by simp,Aa hk⟩
  |false =>
   rw[hk] at h;obtain⟨p,hp,he⟩:=cw (show bL sc t=some s from h);exact⟨p,by simp[hp],he⟩
theorem pG:∀{ks:List Nat}{tm:List Slot}{t:Nat},tlook ks tm t=.dead\/tlook ks tm t∈tm
 |[],tm,t=>.inl (by cases tm<;>rfl)
 |k::ks,[],t=>.inl rfl
 |k::ks,s::ss,t=>by
  simp only[tlook];cases hk:Nat.beq k t with
  |true=>exact .inr (by simp)
  |false=>rcases pG (ks:=ks) (tm:=ss) (t:=t) with h|h
          ·exact .inl h
          ·exact .inr (by simp only[Aq];exact Fa _ h)
theorem tv(hn:noRef tm){t d o:Nat}(h:sl an tm rs t=.ref d o):∃p∈rs.sc,bL rs.sc p.1=some (.ref d o):=by
 unfold sl RS.look at h
 split at h
 ·rename_i s hs
  subst h;obtain⟨p,hp,he⟩:=cw hs;exact⟨p,hp,by rw[he];exact hs⟩
 ·rcases pG (ks:=an.keep) (tm:=tm) (t:=t) with h1|h1
  ·rw[h1] at h;cases h
  ·exact absurd h (hn _ h1 d o)
theorem Rel.dst(h:Rel P ans B0 w Z J ow an (sl an tm rs) tmps rs.sto.objs)(hn:noRef tm){o:Oper}{s:Slot}{v:Value}(hs:SRel w B0 Z J ow tmps an.nt s v)
  (HP:∀u x,s=.ref u x->∃cs,sl an tm rs u=.box cs) (GH:∀cs,s=.box cs->∃d,o.dst=some d/\an.loc.contains d=true) (F9:dK an o s rs=true) :
  ∃AP,Rel P ans B0 w Z J AP an (sl an tm (rs.putO o.dst s)) ((⟨tmps,ds⟩:Act).put o.dst v).tmps rs.sto.objs/\Fr w Z ow w Z AP:=by
 unfold dK at F9;cases hd:o.dst with
 |none=>exact⟨ow,h,Fr.refl _ _ _⟩
 |some d =>
  rw[hd] at F9 GH;simp only[Ac,Db,Cd] at F9;obtain⟨⟨h1,h2⟩,h3⟩:=F9;have Pm:d<an.nt:=by simpa[Dc] using h1
  have hud:∀u x,s=.ref u x->u≠d:=λu x he hh=>by
   subst he;simp only[Cd] at h2;subst hh
   have:Nat.beq u u=true:=Cs u
   rw[this] at h2;cases h2
  refine⟨ren ow false an.nt false d 0,?_,Fr.ren _ _ _⟩;rw[show sl an tm (rs.putO (some d) s)=upd (sl an tm rs) d s from dS _ _ _ _ _];refine h.write d s v Pm (λt x he=>?_) (λu x he=>⟨hud u x he,HP u x he⟩) (λcs he=>?_) Z.le_refl (aI _) h.wsat (λt ht JC=>fP _ _ _ (by simp;omega)) ?_ (h.objs.mono Z.le_refl λi _=>fP _ _ _ (by simp)) (λb hb=>h.lt b (lC _ hb)) (Ae _)
  ·rcases h3 with h3|h3
   ·obtain⟨cs,hc⟩:=h.refs t d x he
    have:=h.boxes d cs hc
    rw[h3] at this;cases this
   ·obtain⟨p,hp,hl⟩:=tv hn he
    have:=An.1 h3 p hp
    rw[hl] at this;simp only[Cd] at this;have hb:Nat.beq d d=true:=Cs d;rw[hb] at this;cases this
  ·obtain⟨d',KU,hl⟩:=GH cs he
   cases KU;exact hl
  ·refine hs.mono Z.le_refl (aI _) (zQ _ _ _) (λu x he=>?_)
   rw[bZ _ _ _ _ (by rw[h.size];exact Pm),Ax (hud u x he)]
def wH(P:Program)(ans:FuncId->AK)(an:AK)(w:World)(B0:Nat)(Z:HT)(J:List Nat)(ow:Own)(tm:List Slot)(rs:RS)(ds:List Deferred)(b:Frame)(cs:List Frame)(m:Machine)(todo:List Item)(kp:AVal->RS->Option R)(next:RS->Option R)(r:R):Prop :=
 (∃rs' w' Z' J' AP tmps',next rs'=some r/\Rel P ans B0 w' Z' J' AP an (sl an tm rs') tmps' rs'.sto.objs/\Fr w Z ow w' Z' AP/\pre J J'/\StoLe rs.sto rs'.sto/\Steps P m (lone (b.atR ⟨tmps',ds⟩ todo) cs w')) \/
 (∃x rs' v w' Z' J' AP tmps' ED,kp x rs'=some r/\Rel P ans B0 w' Z' J' AP an (sl an tm rs') tmps' rs'.sto.objs/\VRel Z' J' x v/\Fr w Z ow w' Z' AP/\pre J J'/\StoLe rs.sto rs'.sto /\
  Steps P m (lone { b.atR ⟨tmps',ds⟩ ED with mode:=.panicking [{ v,recovered:=false }] } cs w'))
theorem aH7(h:Rel P ans B0 w Z J ow an (sl an tm rs) tmps rs.sto.objs)(BK:kZ P ans B0 cf)(hn:noRef tm)(AW:rs.sto.lo<=rs.sto.objs.length){rid:Nat}{o:Oper}{b:Frame}{ops:Array Oper}{i:Nat}{rest:List Nat}{items:List Item}{cs:List Frame}{next:RS->Option R}
  (ho:ops[i]?=some o) (e:gG P ans an drawn cf tm rid ops kp o i rs next=some r) :
  wH P ans an w B0 Z J ow tm rs ds b cs (lone (b.atR ⟨tmps,ds⟩ (.inRegion ops (i::rest)::items)) cs w) (.inRegion ops rest::items) kp next r:=by
 have go:∀(lc:List Nat)(rs0:RS),rs0.sto=rs.sto->Rel P ans B0 w Z J ow an (sl an tm rs0) tmps rs0.sto.objs->Region.wanted o (yielded ops tmps)=true ->
   aD P ans an drawn (an.pure.contains (rid,i)) lc cf tm (an.take.contains (rid,i)) o rs0 kp (λs rs'=>aL (dK an o s rs') (next (rs'.putO o.dst s)))=some r ->
   wH P ans an w B0 Z J ow tm rs ds b cs (lone (b.atR ⟨tmps,ds⟩ (.inRegion ops (i::rest)::items)) cs w) (.inRegion ops rest::items) kp next r:=λlc rs0 GX h0 hw e=>by
  rcases aF7 (ds:=ds) (b:=b) (items:=items) (cs:=cs) (rest:=rest) h0 BK (by rw[GX];exact AW) ho hw e with⟨s,rs',v,w',Z',J',AP,a1,a2,a3,a4,a5,a6,a7,a8,a9⟩|⟨x,rs',v,w',Z',J',AP,a1,a2,a3,a6,a7,a8,a9⟩
  ·obtain⟨hg,a1⟩:=aB a1
   obtain⟨CJ,b1,b2⟩:=a2.dst (ds:=ds) hn a3 a4 a5 hg;have CW:(rs'.putO o.dst s).sto=rs'.sto:=by cases o.dst<;>rfl
   have NU:((⟨tmps,ds⟩:Act).put o.dst v)=⟨((⟨tmps,ds⟩:Act).put o.dst v).tmps,ds⟩:=by cases o.dst<;>rfl
   refine .inl ⟨_,w',Z',J',CJ,_,a1,by rw[CW];exact b1,a6.trans b2,a7,by rw[CW,<-GX];exact a8,?_⟩;rw[<-NU];exact a9
  ·exact .inr ⟨x,rs',v,w',Z',J',AP,tmps,_,a1,a2,a3,a6,a7,by rw[<-GX];exact a8,a9⟩
 unfold gG at e;simp only at e
 split at e
 ·rename_i hg
  exact go _ rs rfl h (by simp[Region.wanted,hg]) e
 ·rename_i j want hg
  split at e
  ·cases e
  ·rename_i d hd
   have fin:∀(rs0:RS),rs0.sto=rs.sto->Rel P ans B0 w Z J ow an (sl an tm rs0) tmps rs0.sto.objs->yielded ops tmps j≠some want->dK an o .dead rs0=true->next (rs0.putO o.dst (.tup []))=some r ->
     wH P ans an w B0 Z J ow tm rs ds b cs (lone (b.atR ⟨tmps,ds⟩ (.inRegion ops (i::rest)::items)) cs w) (.inRegion ops rest::items) kp next r:=λrs0 GX EL hy My e=>by
    have hwf:((ops[i]?).map (Region.wanted · (yielded ops tmps))).getD false=false:=by
     simp[ho,Region.wanted,hg,hy]
    obtain⟨CJ,b1,b2⟩:=EL.dst (ds:=ds) (v:=undef) (s:=.tup []) hn (.tup [] [] rfl (λi x v h=>by simp at h)) (λu x he=>by cases he) (λcs he=>by cases he) My;have CW:(rs0.putO o.dst (.tup [])).sto=rs.sto:=by rw[<-GX];cases o.dst<;>rfl
    have NU:((⟨tmps,ds⟩:Act).put o.dst undef)=⟨((⟨tmps,ds⟩:Act).put o.dst undef).tmps,ds⟩:=by cases o.dst<;>rfl
    refine .inl ⟨_,w,Z,J,CJ,_,e,by rw[CW,<-GX];exact b1,b2,aI _,by rw[CW];exact StoLe.refl _,?_⟩;rw[<-NU]
    have:=stepR_op_skip (P:=P) (b:=b) (a:=⟨tmps,ds⟩) (k:=items) (cs:=cs) (w:=w) (rest:=rest) hwf
    rw[ho] at this;exact .one this
   have Vz:(∃bb lc,sl an tm rs d=.val (.bool bb)/\(match bb==want with
     |true=>aD P ans an drawn (an.pure.contains (rid,i)) lc cf tm (an.take.contains (rid,i)) o (rs.put d (.val (.bool bb))) kp λs rs'=>aL (dK an o s rs') (next (rs'.putO o.dst s))
     |false=>aL (dK an o .dead rs) (next ((rs.put d (.val (.bool bb))).putO o.dst (.tup []))))=some r) \/
     (sl an tm rs d=.tup []/\aL (dK an o .dead rs) (next (rs.putO o.dst (.tup [])))=some r):=by
    unfold nK at e
    split at e
    ·rename_i bb hb
     exact .inl ⟨bb,_,hb,e⟩
    ·rename_i hb
     exact .inr ⟨hb,e⟩
    ·cases e
   rcases Vz with⟨bb,lc,hs,e⟩|⟨hs,e⟩
   rotate_left
   ·obtain⟨F9,e⟩:=aB e
    refine fin rs rfl h ?_ F9 e;have DU:=h.slots d;rw[hs] at DU
    have hv:tmps.getD d undef=.tuple #[]:=by
     generalize tmps.getD d undef=v at DU;cases DU with
     |tup _ vs hl _ =>
      have:vs=[]:=Cm.1 hl.symm
      subst this;rfl
    have:yielded ops tmps j=none:=by
     simp only[yielded,hd,Ai];rw[Af] at hv;cases hh:tmps[d]? with
     |none=>rfl
     |some x=>rw[hh] at hv;simp only[Cn] at hv;subst hv;rfl
    rw[this];simp
   have hv:tmps.getD d undef=.bool bb:=by
    have DU:=h.slots d;rw[hs] at DU;generalize tmps.getD d undef=v at DU;cases DU with
    |val _ _ hh=>cases hh;rfl
   have B4:sl an tm (rs.put d (.val (.bool bb)))=sl an tm rs:=by
    rw[show sl an tm (rs.put d (.val (.bool bb)))=upd (sl an tm rs) d (.val (.bool bb)) from dS _ _ _ _ _];funext t;by_cases ht:t=d
    ·subst ht;rw[eE];exact hs.symm
    ·rw[bI _ _ ht]
   have hdb:tmps[d]?=some (.bool bb):=by
    rw[Af] at hv;cases hh:tmps[d]? with
    |none=>rw[hh] at hv;simp[undef] at hv
    |some x=>rw[hh] at hv;simpa using hv
   have hy:yielded ops tmps j=some bb:=by simp[yielded,hd,hdb]
   have EL:Rel P ans B0 w Z J ow an (sl an tm (rs.put d (.val (.bool bb)))) tmps (rs.put d (.val (.bool bb))).sto.objs:=by rw[B4];exact h
   cases hbw:bb==want with
   |true =>
    rw[hbw] at e;refine go _ (rs.put d (.val (.bool bb))) rfl EL ?_ e
    have:bb=want:=by simpa using hbw
    simp[Region.wanted,hg,hy,this]
   |false =>
    rw[hbw] at e;simp only at e;obtain⟨F9,e⟩:=aB e
    have My:dK an o .dead (rs.put d (.val (.bool bb)))=true:=by
     unfold dK at F9 ⊢;cases FX:o.dst with
     |none=>rfl
     |some d' =>
      rw[FX] at F9;simp only[Ac,Db,Cd] at F9 ⊢;refine⟨F9.1,?_⟩;rcases F9.2 with h3|h3
      ·exact .inl h3
      ·refine .inr (An.2 λp hp=>?_)
       simp only[RS.put,Bb] at hp
       have EC:bL (rs.put d (.val (.bool bb))).sc p.1=if d=p.1 then some (.val (.bool bb)) else bL rs.sc p.1:=by
        simp only[RS.put,bL];cases hb:Nat.beq d p.1 with
        |true=>rw[Bo (Aa hb)];rfl
        |false =>
         rw[Ax];rfl;intro he;rw[he,show Nat.beq p.1 p.1=true from Cs p.1] at hb;cases hb
       rw[EC];by_cases hdp:d=p.1
       ·rw[Bo hdp]
       ·rw[Ax hdp]
        rcases hp with hp|hp
        ·subst hp;exact absurd rfl hdp
        ·exact An.1 h3 p hp
    exact fin (rs.put d (.val (.bool bb))) rfl EL (λhc=>by rw[hy] at hc;rw[Ap hc] at hbw;simp at hbw) My e
theorem o8(BK:kZ P ans B0 cf)(hn:noRef tm){rid:Nat}{b:Frame}{ops:Array Oper}{items:List Item}{cs:List Frame}{kn:RS->Option R}:∀{l:List Nat}{rs:RS}{w:World}{Z:HT}{J:List Nat}{ow:Own}{tmps:Array Value},
  Rel P ans B0 w Z J ow an (sl an tm rs) tmps rs.sto.objs->rs.sto.lo<=rs.sto.objs.length->jP P ans an drawn cf tm rid ops kp kn l rs=some r ->
  wH P ans an w B0 Z J ow tm rs ds b cs (lone (b.atR ⟨tmps,ds⟩ (.inRegion ops l::items)) cs w) (.inRegion ops []::items) kp kn r
 |[],rs,w,Z,J,ow,tmps,h,AW,e=>.inl ⟨rs,w,Z,J,ow,tmps,e,h,Fr.refl _ _ _,aI _,StoLe.refl _,Steps.refl _ _⟩
 |i::l,rs,w,Z,J,ow,tmps,h,AW,e=>by
  simp only[jP] at e
  split at e
  ·rename_i o ho
   rcases aH7 (ds:=ds) (b:=b) (items:=items) (cs:=cs) (rest:=l) h BK hn AW ho e with⟨rs',w',Z',J',AP,tmps',a1,a2,a3,a4,a5,a6⟩|⟨x,rs',v,w',Z',J',AP,tmps',ED,a1,a2,a3,a4,a5,a6,a7⟩
   ·rcases o8 BK hn (b:=b) (items:=items) (cs:=cs) a2 (by rw[a5.lo];exact Bj AW a5.len) a1 with⟨rs2,w2,Z2,J2,CJ,EU,b1,b2,b3,b4,b5,b6⟩|⟨x,rs2,v,w2,Z2,J2,CJ,EU,Od,b1,b2,b3,b4,b5,b6,b7⟩
    ·exact .inl ⟨rs2,w2,Z2,J2,CJ,EU,b1,b2,a3.trans b3,iU a4 b4,a5.trans b5,a6.trans b6⟩
    ·exact .inr ⟨x,rs2,v,w2,Z2,J2,CJ,EU,Od,b1,b2,b3,a3.trans b4,iU a4 b5,a5.trans b6,a6.trans b7⟩
   ·exact .inr ⟨x,rs',v,w',Z',J',AP,tmps',ED,a1,a2,a3,a4,a5,a6,a7⟩
  ·cases e
end
end Go.AM
