import Derived.Test.YtdkkaldimefljaaGreatDoorC04
import Derived.Lib.Builder
import Derived.Lib.UnsafeStr
set_option linter.all false
noncomputable section
namespace Go.CM
open Go.AM (oneC overwrite run_underlying run_sizeOf cR aQ aZ bC aL aR fieldAt? bU cD bytes_beq run_getObj run_setObj)
variable {P:Program} {w0 w:World} {ρ:Rho} {h:T O} {nx:Q} {tm:T V} {tmps:Array Value} {ds:List Deferred} {k:V→Res} {r v:V}
section more
variable {dst:Option Nat} {ty:TypeId} {pos:String} {aft:Array Edge} {gd':Option (Nat×Bool)}
theorem aJP (H:HR P w0 ρ h nx w) {t:TypeId} {x:Operand} (hT:XR ρ tm tmps (Op.operands (.unOp .neg t x)).toList) (e:pK (.neg (aD P x)) tm h k=.ok r) :
  ∃ v,k v=.ok r∧PG P w ρ tmps ds ⟨dst,.unOp .neg t x,ty,pos,aft,gd'⟩ v:=by
 simp only[pK] at e;obtain ⟨c,e1,hc⟩:=opd (ds:=ds) (o:=⟨dst,.unOp .neg t x,ty,pos,aft,gd'⟩) H hT (by simp [Op.operands]) e;obtain ⟨kd,n,hn,e2⟩:=ee e1;subst hn;have e3:=mH e2;rw[vg] at e3;exact ⟨_,e3,.int kd (kd.wrap (0 - n)),by simp [execOp,hc.inv_int,Op.unary,Op.intArith],.int _ _⟩
theorem dy (n:Nat) (h:n < 128):Utf8.encode (n:Int)=⟨⟨[UInt8.ofNat n]⟩⟩:=by
 have h1:Utf8.valid (n:Int)=true:=by simp [Utf8.valid];omega
 unfold Utf8.encode;simp only[h1,if_true,Int.toNat_natCast];rw[if_pos h]
theorem aJ8 (H:HR P w0 ρ h nx w) {s d:TypeId} {x:Operand} {ks:IntKind} (hs:P.underlying s=some (.int ks)) (hd:P.underlying d=some .string) (hT:XR ρ tm tmps (Op.operands (.convert s d x)).toList) (e:pK (.cis (aD P x)) tm h k=.ok r) :
  ∃ v,k v=.ok r∧PG P w ρ tmps ds ⟨dst,.convert s d x,ty,pos,aft,gd'⟩ v:=by
 simp only[pK] at e;obtain ⟨c,e1,hc⟩:=opd (ds:=ds) (o:=⟨dst,.convert s d x,ty,pos,aft,gd'⟩) H hT (by simp [Op.operands]) e;obtain ⟨k1,n,hn,e2⟩:=iF e1;subst hn;obtain ⟨hg,e3⟩:=bR e2;have hlt:=cZ hg;have hv:ev tmps ds x=.int k1 (n:Int):=hc.inv_int;refine ⟨_,e3,.string ⟨⟨[UInt8.ofNat n]⟩⟩,by simp [execOp,hv,convert,run_underlying hs,run_underlying hd,Conv.intToString,dy n hlt],.str _ _ _ rfl ?_⟩;simp [packL];omega
theorem HR.shape (H:HR P w0 ρ h nx w) {o:Q} {b N n:Nat} {t:T V} (ho:ρ o=some (b,N)) (hr:(∃ anc flo ty ex,h.ob o=.row n t anc flo ty ex)∨h.ob o=.ro n t):∃ T m,w.shape? b=some (T,m)∧n≤m:=by
 have:=H.obj o b N ho
 rcases hr with ⟨anc,flo,ty,ex,hr⟩|hr
 ·rw[hr] at this
  cases this with|row _ _ _ _ _ _ _ _ vs hb hw hN hn=>exact ⟨ty,vs.length,by simp [World.shape?,hw],by omega⟩
 ·rw[hr] at this
  cases this with|ro _ _ _ _ vs T fz hw hn=>exact ⟨T,vs.length,by simp [World.shape?,hw],hn⟩
theorem aIU (H:HR P w0 ρ h nx w) {s d t:TypeId} {n:Nat} {x:Operand} (hs:P.underlying s=some (.pointer t)) (hd:P.underlying d=some .unsafePointer) (hz:aZ P t=some (n+1)) (hT:XR ρ tm tmps (Op.operands (.convert s d x)).toList)
  (e:pK (.ctu (aD P x)) tm h k=.ok r):∃ v,k v=.ok r∧PG P w ρ tmps ds ⟨dst,.convert s d x,ty,pos,aft,gd'⟩ v:=by
 simp only[pK] at e;obtain ⟨c,e1,hc⟩:=opd (ds:=ds) (o:=⟨dst,.convert s d x,ty,pos,aft,gd'⟩) H hT (by simp [Op.operands]) e;obtain ⟨j,hj,hjs⟩:=j1 hz;cases c <;> simp only at e1 <;> first|cases e1|skip
 ·have hv:ev tmps ds x=.pointer none:=by generalize ev tmps ds x=u at hc;cases hc;rfl
  exact ⟨_,e1,.pointer none,by simp [execOp,hv,convert,run_underlying hs,run_underlying hd,Conv.unsafePointer],.nilp⟩
 ·obtain ⟨b,N,hv,hb⟩:=hc.inv_ptr
  rw[bS] at e1;obtain ⟨m,tt,hr,e2⟩:=bp e1;obtain ⟨hg,e3⟩:=bR e2;obtain ⟨T,M,h1,h2⟩:=H.shape hb hr;have h3:=Lib.run_to_unsafe (P:=P) w ⟨b,_,none⟩ hs hd hj (by omega) h1 (Nat.lt_of_lt_of_le (cZ hg) h2);exact ⟨_,e3,_,by simp [execOp,hv,h3],.ptr _ _ _ _ hb⟩
theorem aJQ (H:HR P w0 ρ h nx w) {s d t:TypeId} {n:Nat} {x:Operand} (hs:P.underlying s=some .unsafePointer) (hd:P.underlying d=some (.pointer t)) (hz:aZ P t=some (n+1)) (hl:liesAt P P.depth t ((n+1) / P.cellsOf t) 0 t 1=true)
  (hT:XR ρ tm tmps (Op.operands (.convert s d x)).toList) (e:pK (.cfu t (n+1) (aD P x)) tm h k=.ok r):∃ v,k v=.ok r∧PG P w ρ tmps ds ⟨dst,.convert s d x,ty,pos,aft,gd'⟩ v:=by
 simp only[pK] at e;obtain ⟨c,e1,hc⟩:=opd (ds:=ds) (o:=⟨dst,.convert s d x,ty,pos,aft,gd'⟩) H hT (by simp [Op.operands]) e;obtain ⟨j,hj,hjs⟩:=j1 hz;cases c <;> simp only at e1 <;> first|cases e1|skip
 ·have hv:ev tmps ds x=.pointer none:=by generalize ev tmps ds x=u at hc;cases hc;rfl
  exact ⟨_,e1,.pointer none,by simp [execOp,hv,convert,run_underlying hs,run_underlying hd,Conv.unsafePointer],.nilp⟩
 ·obtain ⟨b,N,hv,hb⟩:=hc.inv_ptr
  rw[bS] at e1
  split at e1
  ·rename_i m tt anc flo ty' ex hob
   obtain ⟨hg,e3⟩:=bR e1;simp only[Bool.and_eq_true] at hg;obtain ⟨⟨⟨g1,g2⟩,g3⟩,g4⟩:=hg;have h1:=Nat.eq_of_beq_eq_true g1;have h2:=Nat.eq_of_beq_eq_true g2;have h3:=Nat.eq_of_beq_eq_true g3
   have:=H.obj _ b N hb
   rw[hob] at this;cases this with
   |row _ _ _ _ _ _ _ _ vs hB hw hN hn hf he =>
   have hM:=he g4;have hsh:w.shape? b=some (t,n+1):=by simp [World.shape?,hw,←h3,hN];omega
   have h4:=Lib.run_from_unsafe (P:=P) w ⟨b,0,none⟩ hs hd hj hsh hl;rw[h1] at hv hc;refine ⟨_,e3,.pointer (some ⟨b,0,none⟩),by simp [execOp,hv,h4],?_⟩;rw[h1];exact .ptr _ _ _ _ hb
  ·cases e1
theorem aOG (H:HR P w0 ρ h nx w) {x:Operand} {a:Array Operand} {ts:Array TypeId} (ha:a.toList=[x]) (hT:XR ρ tm tmps (Op.operands (.call ⟨.builtin .unsafeSliceData,a,ts⟩)).toList) (e:pK (.sd (aD P x)) tm h k=.ok r) :
  ∃ v,k v=.ok r∧PG P w ρ tmps ds ⟨dst,.call ⟨.builtin .unsafeSliceData,a,ts⟩,ty,pos,aft,gd'⟩ v:=by
 obtain ⟨a⟩:=a;simp only at ha;subst ha;simp only[pK] at e;obtain ⟨c,e1,hc⟩:=opd (ds:=ds) (o:=⟨dst,.call ⟨.builtin .unsafeSliceData,#[x],ts⟩,ty,pos,aft,gd'⟩) H hT (by simp [Op.operands,Call.operands]) e
 have hex:∀ u,(Builtin.unsafeSliceData_ ts ty #[ev tmps ds x]).run P w=.ok u w→(execOp (ev tmps ds) ⟨dst,.call ⟨.builtin .unsafeSliceData,#[x],ts⟩,ty,pos,aft,gd'⟩).run P w=.ok (.value u) w:=fun u hu=>by
  simp [execOp,resolve,invoke,builtin];simp [ev] at hu;simp [hu]
 generalize hg:ev tmps ds x=u at hc hex;cases hc <;> (try simp only at e1) <;> first|cases e1|skip
 ·exact ⟨_,e1,.pointer none,hex _ (by rw[show Builtin.unsafeSliceData_ ts ty #[.slice none 0 0]=pure (.pointer none) from rfl];rfl),.nilp⟩
 ·rename_i o off len cap b N hb hlc
  cases len with
  |zero=>cases e1
  |succ len=>exact ⟨_,e1,.pointer (some ⟨b,off,none⟩),hex _ (by
    have hd:Builtin.unsafeSliceData_ ts ty #[.slice (some ⟨b,off,none⟩) (len+1) cap]=(if cap≠0 then pure (.pointer (some ⟨b,off,none⟩)) else do if (←viewAt b).isSome then pure (.pointer (some ⟨b,off,none⟩)) else pure (.pointer (some ⟨←newObj (.view ⟨b,off,none⟩ (←elemOf ty)),0,none⟩))):=rfl;rw[hd,if_pos (show cap≠0 by omega)];rfl),.ptr _ _ _ _ hb⟩
 ·rename_i o off len sz b N cap hb hlc hr
  cases len with
  |zero=>cases e1
  |succ len=>exact ⟨_,e1,.pointer (some ⟨b,off,none⟩),hex _ (by
    have hd:Builtin.unsafeSliceData_ ts ty #[.slice (some ⟨b,off,none⟩) (len+1) cap]=(if cap≠0 then pure (.pointer (some ⟨b,off,none⟩)) else do if (←viewAt b).isSome then pure (.pointer (some ⟨b,off,none⟩)) else pure (.pointer (some ⟨←newObj (.view ⟨b,off,none⟩ (←elemOf ty)),0,none⟩))):=rfl;rw[hd,if_pos (show cap≠0 by omega)];rfl),.ptr _ _ _ _ hb⟩
theorem aOe (H:HR P w0 ρ h nx w) {t xt:TypeId} {okb:Bool} {z:V} {x:Operand} {d:TypeDesc} (hu:P.underlying t=some d) (hni:∀ ms,d≠.interface ms) (hz:zeroV P t=some z) (hT:XR ρ tm tmps (Op.operands (.typeAssert x xt t okb)).toList)
  (e:pK (.ta okb t z (aD P x)) tm h k=.ok r):∃ v,k v=.ok r∧PG P w ρ tmps ds ⟨dst,.typeAssert x xt t okb,ty,pos,aft,gd'⟩ v:=by
 simp only[pK] at e;obtain ⟨c,e1,hc⟩:=opd (ds:=ds) (o:=⟨dst,.typeAssert x xt t okb,ty,pos,aft,gd'⟩) H hT (by simp [Op.operands]) e;obtain ⟨zv,hz1,hz2,_⟩:=oX (ρ:=ρ) hz;have hzr:=aQ (P:=P) (w:=w) hz1;generalize hg:ev tmps ds x=u at hc
 have hrun:∀ u',(Instr.typeAssert u xt t okb).run P w=.ok u' w→(execOp (ev tmps ds) ⟨dst,.typeAssert x xt t okb,ty,pos,aft,gd'⟩).run P w=.ok (.value u') w:=fun u' h'=>by
  simp [execOp,hg,h']
 have hmiss:∀ {y:V},vZ okb z k=.ok r→VR ρ y u→(u=.nilIface∨∃ t' v',u=.iface t' v'∧t'≠t)→∃ v,k v=.ok r∧PG P w ρ tmps ds ⟨dst,.typeAssert x xt t okb,ty,pos,aft,gd'⟩ v:=fun em _ hcase=>by
  cases okb with
  |false=>cases em
  |true =>
   refine ⟨_,em,.tuple #[zv,.bool false],hrun _ ?_,hz2.tup2 (.bool _)⟩;rcases hcase with rfl|⟨t',v',rfl,hne⟩
   ·cases d <;> first|exact absurd rfl (hni _)|simp [Instr.typeAssert,run_underlying hu,hzr]
   ·cases d <;> first|exact absurd rfl (hni _)|simp [Instr.typeAssert,run_underlying hu,hzr,hne]
 cases c <;> simp only[taK] at e1 <;> first|cases e1|skip
 ·have hun:u=.nilIface:=by cases hc;rfl
  exact hmiss (y:=.nili) e1 hc (.inl hun)
 ·rename_i t' u'
  obtain ⟨v',hv,hv'⟩:∃ v',u=.iface t' v'∧VR ρ u' v':=by cases hc with|ifc _ _ v' hv'=>exact ⟨v',rfl,hv'⟩
  split at e1
  ·rename_i hb
   have ht:=Nat.eq_of_beq_eq_true hb;subst ht;subst hv;cases okb with
   |true=>exact ⟨_,e1,.tuple #[v',.bool true],hrun _ (by cases d <;> first|exact absurd rfl (hni _)|simp [Instr.typeAssert,run_underlying hu]),hv'.tup2 (.bool _)⟩
   |false=>exact ⟨_,e1,v',hrun _ (by cases d <;> first|exact absurd rfl (hni _)|simp [Instr.typeAssert,run_underlying hu]),hv'⟩
  ·rename_i hb
   exact hmiss (y:=.ifc t' u') e1 hc (.inr ⟨t',v',hv,fun e0=>by rw[e0,Nat.beq_refl] at hb;cases hb⟩)
end more
def bB (x:Res) (k:V→Res):Res :=
 match x with
 |.ok v=>k v
 |e=>e
section nat
variable (k)
theorem oY (v:V):bB (.ok v) k=k v:=rfl
theorem cV (n:Nat):bB (.bad n) k=.bad n:=rfl
theorem lL (x:X) (tm:T V) (g:V→Res):bB (xK x tm g) k=xK x tm fun v=>bB (g v) k:=by
 cases x <;> simp only[xK,dL,cV]
theorem iO (b:Bool) (n:Nat) (g:Res):bB (gd b n g) k=gd b n (bB g k):=by cases b <;> rfl
theorem aHX (v:V) (g:Bool→Res):bB (asB v g) k=asB v fun x=>bB (g x) k:=by cases v <;> rfl
theorem aJe (v:V) (g:IntKind→Int→Res):bB (asI v g) k=asI v fun x y=>bB (g x y) k:=by cases v <;> rfl
theorem aGr (v:V) (g:Nat→Res):bB (asN v g) k=asN v fun x=>bB (g x) k:=by
 cases v with
 |int kd n=>cases n <;> rfl
 |_=>rfl
theorem aLh (v:V) (g:Q→Nat→Res):bB (asP v g) k=asP v fun x y=>bB (g x y) k:=by cases v <;> rfl
theorem aNY (v:V) (g:Nat→Nat→Res):bB (asS v g) k=asS v fun x y=>bB (g x y) k:=by cases v <;> rfl
theorem aK4 (v:V) (g:List V→Res):bB (asA v g) k=asA v fun x=>bB (g x) k:=by cases v <;> rfl
theorem qa (o:O) (g:Nat→T V→Res):bB (xQ o g) k=xQ o fun x y=>bB (g x y) k:=by cases o <;> rfl
theorem aBo (o:O) (g:List (V×V)→Res):bB (pP o g) k=pP o fun x=>bB (g x) k:=by cases o <;> rfl
theorem we (kd:IntKind) (n:Int) (g:Int→Res):bB (gX kd n g) k=gX kd n fun x=>bB (g x) k:=by
 cases n with
 |ofNat m =>
  simp only[gX,aF];split
  ·rfl
  ·simp only[fQ]
 |negSucc m=>simp only[gX,aF,fQ]
theorem aAr (b:Bool) (g:V→Res):bB (bK b g) k=bK b fun x=>bB (g x) k:=by cases b <;> rfl
theorem aGi (op:BinOp) (a b:V) (g:V→Res):bB (qy op a b g) k=qy op a b fun x=>bB (g x) k:=by
 cases a <;> simp only[qy,cV]
 ·cases b <;> simp only[cV,iO]
  congr 1;cases op <;> simp only[pG,we,aAr,iO,fQ,cV]
 ·cases b <;> simp only[cV]
  cases op <;> simp only[ya,aAr,iO,aF,cV]
theorem aCP (h:T O) (o:Q) (x:Nat) (o':Q) (y:Nat) (g:Bool→Res):bB (eqP h o x o' y g) k=eqP h o x o' y fun b=>bB (g b) k:=by
 unfold eqP;split
 ·split
  ·rfl
  ·simp only[bS,iO]
 ·simp only[bS,iO]
theorem aIG (m:EqM) (h:T O) (a b:V) (g:Bool→Res):bB (eqK m h a b g) k=eqK m h a b fun x=>bB (g x) k:=by
 cases m <;> simp only[eqK,aHX]
 ·cases a <;> simp only[cV]
  ·cases b <;> simp only[cV]
  ·cases b <;> simp only[cV,aCP]
 all_goals cases a <;> simp only[cV]
theorem aIh (v:V) (g:List V→Res):bB (cvK v g) k=cvK v fun x=>bB (g x) k:=by cases v <;> rfl
theorem zC:∀ (l:List V) (off:Nat) (new:List V) (g:List V→Res),bB (nU l off new g) k=nU l off new fun x=>bB (g x) k
 |[],0,[],g=>rfl
 |[],0,_::_,g=>rfl
 |[],_+1,_,g=>rfl
 |x::l,0,[],g=>rfl
 |x::l,0,v::vs,g=>by simp only[nU,zC l 0 vs]
 |x::l,off+1,new,g=>by simp only[nU,zC l off new]
theorem aAD (tm:T V):∀ (ps:List (Nat×Nat×X)) (l:List V) (g:List V→Res),bB (y8 tm ps l g) k=y8 tm ps l fun x=>bB (g x) k
 |[],l,g=>rfl
 |(off,n,x)::ps,l,g=>by simp only[y8,lL,aIh,cF,iO,zC,aAD tm ps]
theorem aIC (h:T O) (o:Q) (off:Nat) (g:V→Res):bB (ldK h o off g) k=ldK h o off fun x=>bB (g x) k:=by
 simp only[ldK,bS,qa,iO,lX,dL]
theorem aFQ (h:T O) (o:Q) (off n:Nat) (g:List V→Res):bB (lP h o off n g) k=lP h o off n fun x=>bB (g x) k:=by
 simp only[lP,bS,qa,iO,pH]
theorem aBR {α:Type} (l:List α) (n:Nat) (g:α→Res):bB (pq l n g) k=pq l n fun x=>bB (g x) k:=by
 simp only[rz];cases l[n]? <;> rfl
theorem sm:∀ (n:Nat) (l:List V) (g:List V→Res),bB (nN n l g) k=nN n l fun x=>bB (g x) k
 |0,l,g=>rfl
 |n+1,[],g=>rfl
 |n+1,v::l,g=>by simp only[nN,sm n l]
theorem qz:∀ (off n:Nat) (l:List V) (g:List V→Res),bB (rO off n l g) k=rO off n l fun x=>bB (g x) k
 |0,n,l,g=>by simp only[rO,sm]
 |off+1,n,[],g=>rfl
 |off+1,n,v::l,g=>by simp only[rO,qz off n l]
theorem aIR (agg:Bool) (off n:Nat) (l:List V) (g:V→Res):bB (fdK agg off n l g) k=fdK agg off n l fun x=>bB (g x) k:=by
 cases agg <;> simp only[fdK,aBR,qz]
theorem aEJ (sz:Nat) (v:V) (i:Nat) (g:V→Res):bB (sV sz v i g) k=sV sz v i fun x=>bB (g x) k:=by
 cases v <;> simp only[sV,cV,iO,aF]
theorem aA7 (v:V) (g:Nat→Res):bB (zH v g) k=zH v fun x=>bB (g x) k:=by cases v <;> rfl
theorem aCI (x:Option X) (tm:T V) (d:Nat) (g:Nat→Res):bB (sZ x tm d g) k=sZ x tm d fun n=>bB (g n) k:=by
 cases x <;> simp only[sZ,lL,aGr]
theorem aHE (sz:Nat) (v:V) (lo hi:Nat) (mx:Option Nat) (g:V→Res):bB (w8 sz v lo hi mx g) k=w8 sz v lo hi mx fun x=>bB (g x) k:=by
 cases v <;> cases mx <;> simp only[w8,cV,iO,aF]
 ·congr 1;split <;> rfl
 ·congr 1;split <;> rfl
 ·congr 1;split
  ·rfl
  ·split <;> rfl
 ·congr 1;split <;> rfl
theorem xi (f:FK) (x y:V) (g:Bool→Res):bB (fS f x y g) k=fS f x y fun b=>bB (g b) k:=by
 cases f <;> cases x <;> simp only[fS,cV] <;> cases y <;> simp only[cV,iO]
theorem uX:∀ (fs:List FK) (xs ys:List V) (g:Bool→Res),bB (fJ fs xs ys g) k=fJ fs xs ys fun b=>bB (g b) k
 |[],[],[],g=>rfl
 |[],[],_::_,g=>rfl
 |[],_::_,_,g=>rfl
 |_::_,[],_,g=>rfl
 |_::_,_::_,[],g=>rfl
 |f::fs,x::xs,y::ys,g=>by
  simp only[fJ,xi];congr 1;funext b;cases b
  ·rfl
  ·exact uX fs xs ys g
theorem aA8 (s:KK) (h:T O) (x y:V) (g:Bool→Res):bB (dS s h x y g) k=dS s h x y fun b=>bB (g b) k:=by
 cases s <;> cases x <;> simp only[dS,cV] <;> cases y <;> simp only[cV,iO,aCP,uX]
theorem uh (s:KK) (h:T O) (x:V):∀ (es:List (V×V)) (g:V→Res) (kn:Res),bB (fW s h x es g kn) k=fW s h x es (fun v=>bB (g v) k) (bB kn k)
 |[],g,kn=>rfl
 |(y,v)::es,g,kn=>by
  simp only[fW,aA8];congr 1;funext b;cases b
  ·exact uh s h x es g kn
  ·rfl
theorem aBw (s:KK) (x:V) (g:Res):bB (fU s x g) k=fU s x (bB g k):=by
 cases s <;> simp only[fU]
 cases x <;> simp only[cV,cF,iO]
theorem aFG (tm:T V):∀ (xs:List X) (g:List V→Res),bB (xsK xs tm g) k=xsK xs tm fun x=>bB (g x) k
 |[],g=>rfl
 |x::xs,g=>by
  have h1:∀ g,xsK (x::xs) tm g=xK x tm fun v=>xsK xs tm fun l=>g (v::l):=fun g=>rfl
  rw[h1,h1,lL];congr 1;funext v;rw[aFG tm xs]
end nat
theorem qu (b:PB) (tm:T V) (h:T O) (k:V→Res):pK b tm h k=bB (pK b tm h .ok) k:=by
 cases b
 case pick c x y =>
  simp only[pK,lL,aHX];congr 1;funext v;congr 1;funext t;cases t <;> simp only[lL,oY]
 case nck x =>
  simp only[pK,lL];congr 1;funext v;cases v <;> rfl
 case ctu x =>
  simp only[pK,lL];congr 1;funext v;cases v <;> first|rfl|simp only[cV,oY,bS,qa,iO]
 case cfu ty n x =>
  simp only[pK,lL];congr 1;funext v;cases v <;> first|rfl|simp only[cV,oY,bS]
  rename_i o off;cases h.ob o <;> first|rfl|simp only[cV,iO,oY]
 case sd x =>
  simp only[pK,lL];congr 1;funext v;cases v <;> first|rfl|skip
  ·rename_i o off len cap
   cases len <;> rfl
  ·rename_i o off len cap
   cases len <;> rfl
 case slL sz x lo hi mx =>
  simp only[pK,lL,aA7,aCI];congr 1;funext v;congr 1;funext l;congr 1;funext a;congr 1;funext b;cases mx <;> simp only[aHE,lL,aGr,oY]
 case lk s ok z m key =>
  simp only[pK,lL];congr 1;funext m;congr 1;funext x;rw[aBw];congr 1;cases m <;> simp only[cV]
  ·cases ok <;> rfl
  ·simp only[bS,aBo]
   congr 1;funext es;cases ok <;> simp only[uh,oY]
 case lenM x =>
  simp only[pK,lL];congr 1;funext v;cases v <;> simp only[cV,oY,bS,aBo,cF]
 case ta ok t z x =>
  simp only[pK,lL];congr 1;funext v;cases v <;> simp only[taK,vZ,cV]
  ·cases ok <;> rfl
  ·rename_i t' u
   cases Nat.beq t' t <;> cases ok <;> rfl
 case max x y =>
  simp only[pK,lL,aJe];congr 1;funext a;congr 1;funext b;congr 1;funext ka n;congr 1;funext kb m;cases leI m n <;> rfl
 case ex i x =>
  simp only[pK,lL];congr 1;funext v;cases v <;> simp only[cV,aBR,oY]
 all_goals simp only[pK,lL,iO,aHX,aJe,aGr,aLh,aNY,aK4,we,aAr,aGi,aIG,aAD,aIC,aFQ,aIR,aEJ,aA7,aCI,aFG,oY,cV,aF]
theorem pN {b:PB} (e:pK b tm h k=.ok r):∃ v,pK b tm h .ok=.ok v∧k v=.ok r:=by
 rw[qu] at e;cases hp:pK b tm h .ok with
 |ok v=>rw[hp] at e;exact ⟨v,rfl,e⟩
 |bad n=>rw[hp] at e;cases e
 |fuel=>rw[hp] at e;cases e
theorem ve {b:PB} (hb:isR b=false) (h h':T O):pK b tm h k=pK b tm h' k:=by
 cases b <;> first|rfl|cases hb
theorem j4 {o:Option PB} {b:PB} (hb:orP o=.p b):o=some b∨b=.bad:=by
 cases o with
 |none=>simp only[orP] at hb;cases hb;exact .inr rfl
 |some p=>simp only[orP] at hb;cases hb;exact .inl rfl
theorem vt {o:Option AB} {b:PB} (hb:orA o=.p b):b=.bad:=by
 cases o <;> simp only[orA] at hb <;> cases hb;rfl
theorem wy {o:Option WB} {b:PB} (hb:orW o=.p b):b=.bad:=by
 cases o <;> simp only[orW] at hb <;> cases hb;rfl
theorem aBK (H:HR P w0 ρ h nx w) {o:Oper} {b:PB} (hb:bT P o=.p b) (hT:XR ρ tm tmps o.op.operands.toList) (e:pK b tm h k=.ok r):∃ v,k v=.ok r∧PG P w ρ tmps ds o v:=by
 have bad:b=.bad→∃ v,k v=.ok r∧PG P w ρ tmps ds o v:=fun hb=>by subst hb;cases e
 obtain ⟨dst,op,ty,pos,aft,gd'⟩:=o;cases op <;> simp only[bT] at hb
 case move x=>cases hb;exact aGR H hT e
 case assign x=>cases hb;exact aB0 H hT e
 case pick c x y=>cases hb;exact aGY H hT e
 case alloc t=>exact bad (vt hb)
 case box t x=>exact bad (vt hb)
 case build t parts =>
  rcases j4 hb with hb|hb
  ·obtain ⟨z,hz,hb⟩:=cS hb
   obtain ⟨ps,hp,hb⟩:=j1 hb;subst hb;exact aI9 H hz hp hT e
  ·exact bad hb
 case buildSlice t len parts=>exact bad (vt hb)
 case load t a =>
  rcases j4 hb with hb|hb
  ·obtain ⟨g,hg,hb⟩:=cS hb
   obtain ⟨s,hs,hb⟩:=cS hb;cases g with
   |true=>simp at hb;subst hb;exact aKg H hg hs hT e
   |false =>
    simp only at hb
    split at hb
    ·simp at hb;subst hb;exact aJW H hg hT e
    ·cases hb
  ·exact bad hb
 case store t a x=>exact bad (wy hb)
 case nilCheck x=>cases hb;exact aIX H hT e
 case binOp op t x y yt=>cases hb;exact aDo H hT e
 case unOp op t x =>
  cases op <;> simp only at hb <;> cases hb <;> first|exact bad rfl|exact aF5 H hT e|exact aJP H hT e
 case convert s d x =>
  split at hb
  ·cases hb;rename_i hs hd;exact aIa H hs hd hT e
  ·cases hb;rename_i hs hd;exact aJI H hs hd hT e
  ·cases hb;rename_i hs hd;exact aJ8 H hs hd hT e
  ·rename_i hs hd
   split at hb
   ·cases hb;rename_i hz;exact aIU H hs hd hz hT e
   ·cases hb;exact bad rfl
  ·rename_i hs hd
   split at hb
   ·rename_i hz
    split at hb
    ·cases hb;rename_i hl;exact aJQ H hs hd hz hl hT e
    ·cases hb;exact bad rfl
   ·cases hb;exact bad rfl
  ·split at hb
   ·cases hb
   ·cases hb;exact bad rfl
  ·cases hb;exact bad rfl
 case makeInterface t x =>
  split at hb
  ·cases hb;exact bad rfl
  ·cases hb;rename_i d hd hu;exact aIe H hu (fun m hm=>hd m hm) hT e
  ·cases hb;exact bad rfl
 case makeFunc fn first caps =>
  split at hb
  ·cases hb;exact aIH H hT e
  ·cases hb;exact bad rfl
 case makeMap t r =>
  split at hb
  ·cases hb
  ·cases hb;exact bad rfl
 case makeSlice t l c=>exact bad (vt hb)
 case slice t x lo hi mx =>
  split at hb
  ·cases hb;rename_i hu;exact aJz H hu hT e
  ·rename_i el _ hu
   split at hb
   ·cases hb;exact bad rfl
   ·rename_i hmh
    rcases j4 hb with hb|hb
    ·obtain ⟨s,hs,hb⟩:=j1 hb
     subst hb;exact aJm H hu hs hmh hT e
    ·exact bad hb
  ·cases hb;exact bad rfl
 case fieldAddr t x f =>
  rcases j4 hb with hb|hb
  ·obtain ⟨ot,hf,hb⟩:=cS hb
   obtain ⟨s,hs,hb⟩:=cS hb
   split at hb
   ·rename_i h0
    simp at hb;subst hb;exact aOn H hf hs h0 hT e
   ·cases hb
  ·exact bad hb
 case field t x f =>
  rcases j4 hb with hb|hb
  ·obtain ⟨ot,hf,hb⟩:=cS hb
   obtain ⟨s,hs,hb⟩:=cS hb;obtain ⟨g,hg,hb⟩:=j1 hb;subst hb;exact aMz H hf hs hg hT e
  ·exact bad hb
 case indexAddr t x i =>
  split at hb
  ·rename_i el hu
   rcases j4 hb with hb|hb
   ·obtain ⟨s,hs,hb⟩:=j1 hb
    subst hb;exact aMw H hu hs hT e
   ·exact bad hb
  ·rename_i len el hu
   rcases j4 hb with hb|hb
   ·obtain ⟨s,hs,hb⟩:=j1 hb
    subst hb;exact aKd H hu hs hT e
   ·exact bad hb
  ·cases hb;exact bad rfl
 case index t x i =>
  split at hb
  ·cases hb;rename_i hu;exact aIi H hu hT e
  ·rename_i len el hu
   rcases j4 hb with hb|hb
   ·obtain ⟨s,hs,hb⟩:=cS hb
    obtain ⟨g,hg,hb⟩:=j1 hb;subst hb;exact aID H hu hs hg hT e
   ·exact bad hb
  ·cases hb;exact bad rfl
 case lookup t m key ok =>
  split at hb
  ·rename_i s el ht
   rcases j4 hb with hb|hb
   ·obtain ⟨z,hz,hb⟩:=j1 hb
    subst hb;exact aNv H ht hz hT e
   ·exact bad hb
  ·cases hb;exact bad rfl
 case mapUpdate t m key x=>split at hb <;> cases hb;exact bad rfl
 case insert t m key x=>split at hb <;> cases hb;exact bad rfl
 case mapEntry t m key =>
  split at hb
  ·exact bad (wy hb)
  ·cases hb;exact bad rfl
 case entryStore t m s x=>cases hb
 case extract x i=>cases hb;exact aMy H hT e
 case typeAssert x xt t okb =>
  rcases j4 hb with hb|hb
  ·obtain ⟨d,hd,hb⟩:=cS hb
   split at hb
   ·cases hb
   ·rename_i hni
    obtain ⟨z,hz,hb⟩:=j1 hb;subst hb;exact aOe H hd (fun ms e0=>hni ms e0) hz hT e
  ·exact bad hb
 case call c =>
  obtain ⟨cal,a,ts⟩:=c;cases cal <;> simp only[gC] at hb
  ·cases hb
  ·cases hb
  ·split at hb
   ·exact bad (wy hb)
   ·rename_i x t ha hts
    split at hb
    ·cases hb;rename_i hu;exact aAi H ha hts (.inl ⟨hu,rfl⟩) hT e
    ·cases hb;rename_i hu;exact aAi H ha hts (.inr (.inl ⟨_,hu,rfl⟩)) hT e
    ·cases hb;rename_i hu;exact aAi H ha hts (.inr (.inr ⟨_,_,hu,rfl⟩)) hT e
    ·cases hb;exact bad rfl
   ·exact bad (wy hb)
   ·cases hb;rename_i ha;exact aOG H ha hT e
   ·split at hb
    ·split at hb
     ·cases hb
     ·cases hb;exact bad rfl
    ·cases hb;exact bad rfl
   ·cases hb;rename_i ha;exact aIO H ha hT e
   ·cases hb
   ·cases hb;exact bad rfl
 case defer c =>
  split at hb
  ·cases hb
  ·split at hb
   ·split at hb <;> cases hb;exact bad rfl
   ·cases hb;exact bad rfl
  ·cases hb;exact bad rfl
 all_goals (cases hb;exact bad rfl)
end Go.CM
end
noncomputable section
namespace Go.CM
open Go.AM (oneC overwrite aP aN run_underlying run_sizeOf cR aQ aZ bC aL aR fieldAt? bU cD bytes_beq run_getObj run_setObj heap_alloc_new iX)
variable {P:Program} {w0 w:World} {ρ:Rho} {h:T O} {nx:Q} {tm:T V} {tmps:Array Value} {ds:List Deferred} {r v:V}
theorem kM:∀ (a b:List V) (i:Nat) (t:T V),dE (a++b) i t=dE b (i+a.length) (dE a i t)
 |[],b,i,t=>by simp [dE]
 |v::a,b,i,t=>by
  simp only[List.cons_append,dE,kM a b,List.length_cons];rw[show i+1+a.length=i+(a.length+1) by omega]
theorem rB (z:List V):∀ (n i:Nat) (t:T V),y6 z n i t=dE (mA z n) i t
 |0,i,t=>rfl
 |n+1,i,t=>by simp only[y6,mA,kM,rB z n]
theorem jU (z:List V):∀ n,(mA z n).length=n * z.length
 |0=>by simp [mA]
 |n+1=>by simp [mA,jU z n,Nat.add_mul,Nat.add_comm]
theorem uZ (z:List V):∀ (n j:Nat) c,(mA z n)[j]?=some c→z[j % z.length]?=some c
 |0,j,c,h=>by simp [mA] at h
 |n+1,j,c,h=>by
  simp only[mA] at h;rw[List.getElem?_append] at h
  split at h
  ·rename_i hj
   rw[Nat.mod_eq_of_lt hj];exact h
  ·rename_i hj
   have:=uZ z n _ c h
   rw[←Nat.mod_eq_sub_mod (by omega)] at this;exact this
theorem vC:∀ (vs:List V) (n:Nat) (t:T V),T.ofListF V.undef vs (qn n) t=dE vs n t
 |[],n,t=>rfl
 |v::vs,n,t=>by simp only[T.ofListF,dE,ui,vC vs]
theorem ofList_eq (vs:List V):T.ofList vs=dE vs 0 .nil:=vC vs 0 .nil
def TL (t:T V) (L:List V):Prop:=∀ (j:Nat) c,L[j]?=some c→t.at j=c
theorem TL.puts (L:List V) (t:T V):TL (dE L 0 t) L:=fun j c hc=>by
 have hj:j < L.length:=(List.getElem?_eq_some_iff.1 hc).1;rw[iA,if_pos ⟨by omega,by omega⟩];simp [List.getD_eq_getElem?_getD,hc]
theorem TL.over {t:T V} {L c:List V} {off:Nat} (h:TL t L) (hle:off+c.length≤L.length):TL (dE c off t) (overwrite L off c):=fun j x hx=>by
 rw[aP _ _ _ _ hle] at hx;rw[iA];by_cases h1:j < off
 ·rw[if_pos h1] at hx
  rw[if_neg (by omega)];exact h j x hx
 ·rw[if_neg h1] at hx
  by_cases h2:j < off+c.length
  ·rw[if_pos h2] at hx
   rw[if_pos ⟨by omega,h2⟩,List.getD_eq_getElem?_getD,hx];rfl
  ·rw[if_neg h2] at hx
   rw[if_neg (by omega)];exact h j x hx
theorem OR.new {ρ':Rho} {L:List V} {vs:List Value} {t:T V} {T':TypeId} {B0:Nat} (hB:B0≤w.heap.size) (ht:TL t L) (hv:VRs ρ' L vs) (hk:∀ c∈L,isCell c=true) :
  OR P ρ' (w.alloc (.cells ⟨vs⟩ T')) B0 (.row L.length t [] 0 T' true) w.heap.size vs.length :=
 .row _ _ _ _ _ _ _ _ vs hB (AM.heap_alloc_new _) rfl (by rw[hv.1];exact Nat.le_refl _) (Nat.zero_le _) (fun _=>hv.1) (fun a ha=>by cases ha) (fun i v hi hv'=>by
  have h1:=ht i L[i] (by simp [hi]);rw[h1];exact hv.2 i _ v (by simp [hi]) hv') fun i hi=>by
  have h1:=ht i L[i] (by simp [hi]);rw[h1];exact hk _ (List.getElem_mem hi)
theorem sw (H:HR P w0 ρ h nx w) {sz n:Nat}:∀ {parts:List (Nat×Operand)} {t:T V} {L:List V} {Ls:List Value} {k:T V→Res},XR ρ tm tmps (parts.map (·.2))→(∀ p∈parts,p.1 < n)→L.length=n * sz→TL t L→VRs ρ L Ls→(∀ c∈L,isCell c=true) →
  rZ tm sz (jJ P parts) t k=.ok r→∃ t' L' Ls',(∀ k',rZ tm sz (jJ P parts) t k'=k' t')∧k t'=.ok r∧L'.length=n * sz∧TL t' L'∧VRs ρ L' Ls'∧(∀ c∈L',isCell c=true) ∧
   Instr.fill (fun i=>some (i * sz,sz)) ⟨Ls⟩ (parts.map fun p=>(p.1,ev tmps ds p.2))=some ⟨Ls'⟩
 |[],t,L,Ls,k,hT,hp,hL,ht,hv,hk,e=>⟨t,L,Ls,fun _=>rfl,e,hL,ht,hv,hk,rfl⟩
 |(i,x)::parts,t,L,Ls,k,hT,hp,hL,ht,hv,hk,e=>by
  have e0:∀ k',rZ tm sz (jJ P ((i,x)::parts)) t k'=xK (aD P x) tm fun v=>cvK v fun c=>nY c fun m=>gd (Nat.beq m sz) 57 (jC c (i * sz) t fun t'=>rZ tm sz (jJ P parts) t' k'):=fun k'=>rfl
  rw[e0] at e;obtain ⟨c,h1,e⟩:=dK e;have hc:=eZ (ds:=ds) H.glob (hT.sub (fun y hy=>by simp at hy;simp [hy])) h1;obtain ⟨l,hl,e⟩:=qV e;rw[cF] at e;obtain ⟨hg,e⟩:=bR e;rw[dF] at e;have hls:=Nat.eq_of_beq_eq_true hg;obtain ⟨g1,g2,g3⟩:=hc.cells hl;have hi:=hp (i,x) (by simp)
  have hle:i * sz+l.length≤L.length:=by
   rw[hls,hL,←Nat.succ_mul];exact Nat.mul_le_mul_right _ hi
  obtain ⟨t',L',Ls',f0,f1,f2,f3,f4,f5,f6⟩:=sw H (hT.sub (fun y hy=>by simp at hy ⊢;exact .inr hy)) (fun p hp'=>hp p (by simp [hp'])) (by rw[aN _ _ _ hle];exact hL) (ht.over hle) (hv.over (off:=i * sz) g1) (yK hk g2) e;refine ⟨t',L',Ls',fun k'=>?_,f1,f2,f3,f4,f5,?_⟩
  ·rw[e0]
   have hx:∀ k'':V→Res,xK (aD P x) tm k''=k'' c:=fun k''=>by
    cases hcx:aD P x with
    |t q=>rw[hcx] at h1;simp only[xE,Option.some.injEq] at h1;subst h1;simp only[xK,dL]
    |c v=>rw[hcx] at h1;simp only[xE,Option.some.injEq] at h1;subst h1;rfl
    |bad=>rw[hcx] at h1;cases h1
   have hcv:∀ k'':List V→Res,cvK c k''=k'' l:=fun k''=>by
    rcases hl with rfl|⟨h1,rfl⟩
    ·rfl
    ·cases c <;> first|rfl|cases h1
   rw[hx,hcv,cF,hg,gd,dF];exact f0 k'
  ·have hsz:(ev tmps ds x).cells.size=sz:=by
    have:=g1.1
    rw[hls] at this;simpa using this.symm
   have hzl:i * sz+(ev tmps ds x).cells.size≤Ls.length:=by rw[←hv.1,hsz];rw[hls] at hle;exact hle
   simp only[List.map_cons,Instr.fill];rw[if_neg (by simp [hsz];rw[←hsz];simpa [hsz] using hzl),iX _ _ _ (by simpa using hzl)];exact f6
def AE (b:AB) (tm:T V) (ob:O) (mk:Q→V):Prop:=∀ k:O→(Q→V)→Res,aK b tm k=k ob mk
theorem e7 {x:X} {v:V} (h1:xE tm x=some v) (k:V→Res):xK x tm k=k v:=by
 cases x with
 |t q=>simp only[xE,Option.some.injEq] at h1;subst h1;simp only[xK,dL]
 |c v=>simp only[xE,Option.some.injEq] at h1;subst h1;rfl
 |bad=>cases h1
theorem cj {v:V} {l:List V} (h:VC v l) (k:List V→Res):cvK v k=k l:=by
 rcases h with rfl|⟨h1,rfl⟩
 ·rfl
 ·cases v <;> first|rfl|cases h1
structure AG (P:Program) (w0 w:World) (ρ:Rho) (tmps:Array Value) (ds:List Deferred) (o:Oper) (ob:O) (mk:Q→V):Prop where
 run:∃ x N u,(execOp (ev tmps ds) o).run P w=.ok (.value u) (w.alloc x)∧∀ q,ρ q=none→OR P (ρ.set q w.heap.size N) (w.alloc x) w0.heap.size ob w.heap.size N∧VR (ρ.set q w.heap.size N) (mk q) u
section
variable {dst:Option Nat} {ty:TypeId} {pos:String} {aft:Array Edge} {gd':Option (Nat×Bool)} {k:O→(Q→V)→Res}
theorem aNe (H:HR P w0 ρ h nx w) {t:TypeId} {z:List V} (hz:lE P t=some z):AG P w0 w ρ tmps ds ⟨dst,.alloc t,ty,pos,aft,gd'⟩ (.row z.length (T.ofList z) [] 0 t true) (fun q=>.ptr q 0):=by
 obtain ⟨zv,h1,h2,h3,h4,h5⟩:=l7 (ρ:=ρ) hz;refine ⟨.cells ⟨zv.cells.toList⟩ t,zv.cells.toList.length,.pointer (some ⟨w.heap.size,0,none⟩),?_,fun q hq=>⟨?_,?_⟩⟩
 ·simp [execOp,Instr.alloc,aQ h1,newVar,newRow]
 ·refine OR.new H.size ?_ (h3.mono (Rho.set_le hq)) h4
  rw[ofList_eq];exact TL.puts _ _
 ·exact .ptr _ _ _ _ Rho.set_same
theorem aL6 (H:HR P w0 ρ h nx w) {t:TypeId} {x:Operand} {n:Nat} (hT:XR ρ tm tmps (Op.operands (.box t x)).toList) (e:aK (.bx t n (aD P x)) tm k=.ok r) :
  ∃ ob mk,AE (.bx t n (aD P x)) tm ob mk∧k ob mk=.ok r∧AG P w0 w ρ tmps ds ⟨dst,.box t x,ty,pos,aft,gd'⟩ ob mk:=by
 simp only[aK] at e;obtain ⟨c,h1,e1⟩:=dK e;have hc:=eZ (ds:=ds) H.glob (hT.sub (by simp [Op.operands])) h1;obtain ⟨l,hl,e2⟩:=qV e1;rw[cF] at e2;obtain ⟨hg,e3⟩:=bR e2;rw[dF] at e3;obtain ⟨g1,g2,g3⟩:=hc.cells hl;have hln:=Nat.eq_of_beq_eq_true hg;refine ⟨_,_,fun k'=>by simp only[aK,e7 h1,cj hl,cF,hg,gd,dF],e3,⟨.cells ⟨(ev tmps ds x).cells.toList⟩ t,(ev tmps ds x).cells.toList.length,.pointer (some ⟨w.heap.size,0,none⟩),?_,fun q hq=>⟨?_,.ptr _ _ _ _ Rho.set_same⟩⟩⟩
 ·simp [execOp,Instr.box,newVar,newRow]
 ·rw[←hln]
  exact OR.new H.size (TL.puts _ _) (g1.mono (Rho.set_le hq)) g2
theorem aJk (H:HR P w0 ρ h nx w) {t:TypeId}:AG P w0 w ρ tmps ds ⟨dst,.makeMap t none,ty,pos,aft,gd'⟩ (.map []) (fun q=>.map q):=by
 refine ⟨.map #[] 0,0,.map (some w.heap.size),?_,fun q hq=>⟨.map [] [] 0 _ _ H.size (AM.heap_alloc_new _) ⟨rfl,fun i p e h=>by simp at h,fun i p e h=>by simp at h⟩ ⟨rfl,fun i e h=>by simp at h⟩,.map _ _ _ Rho.set_same⟩⟩;simp [execOp,Instr.makeMap]
theorem aFv {ρ':Rho} {z:List V} {zv:Value} (hz:VRs ρ' z zv.cells.toList) (hpos:0 < z.length) (n:Nat):VRs ρ' (mA z n) ((List.range (n * z.length)).map fun p=>zv.cells[p % zv.cells.size]!):=by
 have hsz:zv.cells.size=z.length:=by simpa using hz.1.symm
 refine ⟨by simp [jU],fun j c u hc hu=>?_⟩;have hj:j < n * z.length:=by have:=(List.getElem?_eq_some_iff.1 hu).1;simpa using this
 simp only[List.getElem?_map,List.getElem?_range hj,Option.map_some,Option.some.injEq] at hu;have h1:=uZ z n j c hc;have hm:j % z.length < zv.cells.size:=by rw[hsz];exact Nat.mod_lt _ hpos
 refine hz.2 (j % z.length) c u h1 ?_;rw[hsz] at hu;rw[←hu];simp [hm]
theorem yO {z:List V} (hk:∀ c∈z,isCell c=true) (n:Nat):∀ c∈mA z n,isCell c=true:=fun c hc=>by
 obtain ⟨j,hj⟩:=List.getElem?_of_mem hc;exact hk c (List.mem_of_getElem? (uZ z n j c hj))
theorem aIb (H:HR P w0 ρ h nx w) {t el:TypeId} {len:Nat} {parts:Array (Nat×Operand)} {z:List V} (hu:P.underlying t=some (.slice el)) (hz:lE P el=some z) (hpos:0 < z.length) (hle:len * z.length≤16777216) (hp:∀ p∈parts.toList,p.1 < len)
  (hT:XR ρ tm tmps (Op.operands (.buildSlice t len parts)).toList) (e:aK (.bsl el z.length len (T.ofList (mA z len)) (jJ P parts.toList)) tm k=.ok r) :
  ∃ ob mk,AE (.bsl el z.length len (T.ofList (mA z len)) (jJ P parts.toList)) tm ob mk∧k ob mk=.ok r∧AG P w0 w ρ tmps ds ⟨dst,.buildSlice t len parts,ty,pos,aft,gd'⟩ ob mk:=by
 simp only[aK] at e;obtain ⟨zv,h1,h2,h3,h4,h5⟩:=l7 (ρ:=ρ) hz;have hT':XR ρ tm tmps (parts.toList.map (·.2)):=hT.sub (fun x hx=>by simpa [Op.operands] using hx);obtain ⟨t',L',Ls',f0,f1,f2,f3,f4,f5,f6⟩:=sw (ds:=ds) (n:=len) H hT' hp (jU z len) (by rw[ofList_eq];exact TL.puts _ _) (aFv h3 hpos len) (yO h4 len) e;rw[aF] at f1
 have hrun:(Instr.buildSlice t len (parts.map fun (i,x)=>(i,ev tmps ds x))).run P w=.ok (.slice (some ⟨w.heap.size,0,none⟩) len len) (w.alloc (.cells ⟨Ls'⟩ el)):=by
  have hsz:zv.cells.size=z.length:=by simpa using h3.1.symm
  have harr:(Array.range (len * z.length)).map (fun p=>zv.cells[p % zv.cells.size]!)=⟨(List.range (len * z.length)).map fun p=>zv.cells[p % zv.cells.size]!⟩:=by
   apply Array.ext';simp
  by_cases h0:len * z.length=0
  ·have hlen0:len=0:=by rcases Nat.mul_eq_zero.1 h0 with h'|h'
                        ·exact h'
                        ·omega
   subst hlen0;simp only[Nat.zero_mul,List.range_zero,List.map_nil] at f6;simp only[Instr.buildSlice,Sem.run_bind,run_underlying hu,Result.andThen_ok,run_sizeOf h2];simp;have f1':Instr.fill (fun i=>some (i * z.length,z.length)) #[] (parts.map fun (i,x)=>(i,ev tmps ds x)).toList=some ⟨Ls'⟩:=by simpa using f6
   simp at f1';have hr0:Array.map (fun _:Nat=>(default:Value)) (Array.range 0)=#[]:=by apply Array.ext';simp
   simp [hr0,f1',newRow]
  ·have hle':¬ len * z.length > 2 ^ 24:=by omega
   simp only[Instr.buildSlice,Sem.run_bind,run_underlying hu,Result.andThen_ok,run_sizeOf h2]
   have f1':Instr.fill (fun i=>some (i * z.length,z.length)) ((Array.range (len * z.length)).map (fun p=>zv.cells[p % zv.cells.size]!)) (parts.map fun (i,x)=>(i,ev tmps ds x)).toList=some ⟨Ls'⟩:=by
    rw[harr];simpa using f6
   rw[if_neg hle'];simp only[if_neg h0,Sem.run_bind,aQ h1,Result.andThen_ok,Sem.run_pure,f1',newRow,run_newObj];rfl
 have hlen:len * z.length=L'.length:=f2.symm;refine ⟨_,_,fun k'=>by simp only[aK];rw[f0,aF],f1,⟨.cells ⟨Ls'⟩ el,Ls'.length,.slice (some ⟨w.heap.size,0,none⟩) len len,?_,fun q hq=>⟨?_,.sl _ _ _ _ _ _ Rho.set_same (Nat.le_refl _)⟩⟩⟩
 ·simp [execOp,hrun]
 ·rw[hlen]
  exact OR.new H.size f3 (f4.mono (Rho.set_le hq)) f5
end
end Go.CM
end
noncomputable section
namespace Go.CM
open Go.AM (oneC overwrite aP aN run_underlying run_sizeOf cR aQ aZ bC aL aR fieldAt? bU cD bytes_beq run_getObj run_setObj heap_alloc_new iX)
variable {P:Program} {w0 w:World} {ρ:Rho} {h:T O} {nx:Q} {tm:T V} {tmps:Array Value} {ds:List Deferred} {r v:V}
section
variable {dst:Option Nat} {ty:TypeId} {pos:String} {aft:Array Edge} {gd':Option (Nat×Bool)} {k:O→(Q→V)→Res}
theorem iR {t e:TypeId} (h:aR P t=some e):P.underlying t=some (.slice e):=by
 unfold aR at h
 split at h
 ·cases h;assumption
 ·cases h
theorem aJR (H:HR P w0 ρ h nx w) {t el:TypeId} {l c:Operand} {z:List V} (hu:P.underlying t=some (.slice el)) (hz:lE P el=some z) (hpos:0 < z.length) (hby:aL P el≤16384)
  (hT:XR ρ tm tmps (Op.operands (.makeSlice t l c)).toList) (e:aK (.mks el z.length z (aD P l) (aD P c)) tm k=.ok r) :
  ∃ ob mk,AE (.mks el z.length z (aD P l) (aD P c)) tm ob mk∧k ob mk=.ok r∧AG P w0 w ρ tmps ds ⟨dst,.makeSlice t l c,ty,pos,aft,gd'⟩ ob mk:=by
 simp only[aK] at e;obtain ⟨zv,h1,h2,h3,h4,h5⟩:=l7 (ρ:=ρ) hz;obtain ⟨a,ha,e1⟩:=dK e;obtain ⟨kl,ln,hl,e2⟩:=iF e1;obtain ⟨b,hb,e3⟩:=dK e2;obtain ⟨kc,cn,hc,e4⟩:=iF e3;obtain ⟨hg,e5⟩:=bR e4;rw[mL,rB,aF] at e5;have hva:=eZ (ds:=ds) H.glob (hT.sub (by simp [Op.operands])) ha;have hvb:=eZ (ds:=ds) H.glob (hT.sub (by simp [Op.operands])) hb;rw[hl] at hva;rw[hc] at hvb;have hva:=hva.inv_int;have hvb:=hvb.inv_int;have hg':=hg;rw[Bool.and_eq_true] at hg;have g1:=Nat.le_of_ble_eq_true hg.1;have g2:=Nat.le_of_ble_eq_true hg.2;have hrep:(mA z cn).length=cn * z.length:=jU z cn;refine ⟨_,_,fun k'=>?_,e5,⟨.cells ⟨(List.range (cn * z.length)).map fun p=>zv.cells[p % zv.cells.size]!⟩ el,cn * z.length,.slice (some ⟨w.heap.size,0,none⟩) ln cn,?_,fun q hq=>⟨?_,.sl _ _ _ _ _ _ Rho.set_same g1⟩⟩⟩
 ·simp only[aK,e7 ha,e7 hb,hl,hc,asN,hg',gd,mL,rB,aF]
 ·have w1:IntKind.i64.wrap (ln:Int)=ln:=wO .i64 ln (by simp only[ikM];omega)
  have w2:IntKind.i64.wrap (cn:Int)=cn:=wO .i64 cn (by simp only[ikM];omega);have hm:aL P el * cn≤16384 * 16777216:=Nat.mul_le_mul hby g2;obtain ⟨ti,hti,hzz⟩:=cS h1;have hbt:ti.bytes=aL P el:=by simp [aL,hti]
  have hnt:¬ ((ti.bytes:Int) * (cn:Int) > 281474976710656):=by
   rw[hbt]
   have:((aL P el:Nat):Int) * (cn:Int)=((aL P el * cn:Nat):Int):=by simp
   rw[this];omega
  have hva':ev tmps ds l=.int kl (ln:Int):=hva;have hvb':ev tmps ds c=.int kc (cn:Int):=hvb;have hnl:¬ ((cn:Int) < (ln:Int)):=by omega
  have hcond:((decide ((cn:Int) < 0)||decide ((ti.bytes:Int) * (cn:Int) > 2 ^ 48))=true∨(ln:Int) < 0∨(cn:Int) < (ln:Int))=False:=by
   simp;omega
  have harr:(Array.range (cn * z.length)).map (fun p=>zv.cells[p % zv.cells.size]!)=⟨(List.range (cn * z.length)).map fun p=>zv.cells[p % zv.cells.size]!⟩:=by
   apply Array.ext';simp
  have htl:(decide ((cn:Int) < 0)||decide ((ti.bytes:Int) * (cn:Int) > 2 ^ 48))=false:=by
   rw[Bool.or_eq_false_iff,decide_eq_false_iff_not,decide_eq_false_iff_not];exact ⟨by omega,by simpa using hnt⟩
  have hrun:(Instr.makeSlice t (ev tmps ds l) (ev tmps ds c)).run P w=.ok (.slice (some ⟨w.heap.size,0,none⟩) ln cn) (w.alloc (.cells ⟨(List.range (cn * z.length)).map fun p=>zv.cells[p % zv.cells.size]!⟩ el)):=by
   rw[hva',hvb'];simp only[Instr.makeSlice,Sem.run_bind,run_underlying hu,Result.andThen_ok,asInt,Sem.run_pure,typeInfo,hti,w1,w2,htl];by_cases h0:cn * z.length=0
   ·have hcn:cn=0:=by rcases Nat.mul_eq_zero.1 h0 with h'|h'
                      ·exact h'
                      ·omega
    subst hcn;have hln:ln=0:=by omega
    subst hln;have w3:IntKind.i64.wrap 0=0:=by decide
    have hr0:Array.map (fun _:Nat=>(default:Value)) (Array.range 0)=⟨[]⟩:=by apply Array.ext';simp
    simp [asIntOf,hti,run_sizeOf h2,newRow,w3,hr0]
   ·have hnt':¬ (281474976710656 < (ti.bytes:Int) * (cn:Int)):=hnt
    simp [asIntOf,hti,run_sizeOf h2,h0,hnl,aQ h1,newRow,harr,w1,w2,hnt'];intro hx;omega
  simp [execOp,hrun]
 ·rw[←hrep]
  have hzi:=aFv (h3.mono (Rho.set_le (b:=w.heap.size) (N:=(mA z cn).length) hq)) hpos cn
  have:=OR.new (P:=P) (w:=w) (T':=el) (B0:=w0.heap.size) H.size (TL.puts (mA z cn) .nil) hzi (yO h4 cn)
  rw[←hzi.1,←hrep] at this;exact this
theorem eu {o:Option AB} {b:AB} (hb:orA o=.a b):o=some b:=by
 cases o with
 |none=>cases hb
 |some p=>simp only[orA] at hb;cases hb;rfl
theorem nR {o:Option PB} {b:AB} (hb:orP o=.a b):False:=by cases o <;> cases hb
theorem vq {o:Option WB} {b:AB} (hb:orW o=.a b):False:=by cases o <;> cases hb
theorem aAk (H:HR P w0 ρ h nx w) {o:Oper} {b:AB} (hb:bT P o=.a b) (hT:XR ρ tm tmps o.op.operands.toList) (e:aK b tm k=.ok r) :
  ∃ ob mk,AE b tm ob mk∧k ob mk=.ok r∧AG P w0 w ρ tmps ds o ob mk:=by
 obtain ⟨dst,op,ty,pos,aft,gd'⟩:=o;cases op <;> simp only[bT] at hb
 case alloc t =>
  obtain ⟨z,hz,hb⟩:=j1 (eu hb);subst hb;exact ⟨_,_,fun _=>rfl,e,aNe H hz⟩
 case box t x =>
  obtain ⟨s,hs,hb⟩:=j1 (eu hb);subst hb;exact aL6 H hT e
 case buildSlice t len parts =>
  obtain ⟨el,hel,hb⟩:=cS (eu hb);obtain ⟨z,hz,hb⟩:=cS hb
  split at hb
  ·rename_i hg
   simp at hb;subst hb;rw[Bool.and_eq_true,Bool.and_eq_true] at hg;exact aIb H (iR hel) hz (cZ hg.1.1) (Nat.le_of_ble_eq_true hg.1.2) (fun p hp=>cZ (List.all_eq_true.1 hg.2 p hp)) hT e
  ·cases hb
 case makeMap t r' =>
  split at hb
  ·cases hb;exact ⟨_,_,fun _=>rfl,e,aJk H⟩
  ·cases hb
 case makeSlice t l c =>
  obtain ⟨el,hel,hb⟩:=cS (eu hb);obtain ⟨z,hz,hb⟩:=cS hb
  split at hb
  ·rename_i hg
   simp at hb;subst hb;rw[Bool.and_eq_true] at hg;exact aJR H (iR hel) hz (cZ hg.1) (Nat.le_of_ble_eq_true hg.2) hT e
  ·cases hb
 case binOp op t x y yt=>cases hb
 case build t parts=>exact (nR hb).elim
 case load t a=>exact (nR hb).elim
 case store t a x=>exact (vq hb).elim
 case unOp op t x=>cases op <;> cases hb
 case convert s d x =>
  split at hb
  ·cases hb
  ·cases hb
  ·cases hb
  ·split at hb <;> cases hb
  ·split at hb
   ·split at hb <;> cases hb
   ·cases hb
  ·split at hb <;> cases hb
  ·cases hb
 case makeInterface t x=>split at hb <;> cases hb
 case makeFunc fn first caps=>split at hb <;> cases hb
 case slice t x lo hi mx =>
  split at hb
  ·cases hb
  ·split at hb
   ·cases hb
   ·exact (nR hb).elim
  ·cases hb
 case fieldAddr t x f=>exact (nR hb).elim
 case field t x f=>exact (nR hb).elim
 case indexAddr t x i =>
  split at hb
  ·exact (nR hb).elim
  ·exact (nR hb).elim
  ·cases hb
 case index t x i =>
  split at hb
  ·cases hb
  ·exact (nR hb).elim
  ·cases hb
 case lookup t m key ok =>
  split at hb
  ·exact (nR hb).elim
  ·cases hb
 case mapUpdate t m key x=>split at hb <;> cases hb
 case insert t m key x=>split at hb <;> cases hb
 case mapEntry t m key =>
  split at hb
  ·exact (vq hb).elim
  ·cases hb
 case call c =>
  obtain ⟨cal,a,ts⟩:=c;cases cal <;> simp only[gC] at hb
  ·cases hb
  ·cases hb
  ·split at hb
   ·exact (vq hb).elim
   ·split at hb <;> cases hb
   ·exact (vq hb).elim
   ·cases hb
   ·split at hb
    ·split at hb <;> cases hb
    ·cases hb
   ·cases hb
   ·cases hb
   ·cases hb
 case defer c =>
  split at hb
  ·cases hb
  ·split at hb
   ·split at hb <;> cases hb
   ·cases hb
  ·cases hb
 case typeAssert x xt t okb=>exact (nR hb).elim
 all_goals cases hb
end
end Go.CM
end
