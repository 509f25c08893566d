import Derived.Test.YtdkkaldimefljaaGreatDoorC02
import Derived.Lib.Builder
import Derived.Lib.UnsafeStr
set_option linter.all false
noncomputable section
namespace Go.CM
section
open Go.AM (oneC overwrite run_underlying run_sizeOf cY aS bA bO aU aT AY b8 cF bytes_beq run_getObj run_setObj)
variable {P:Program}{w0 w:World}{J:Rho}{h:T O}{nx:Q}{tm:T V}{tmps:Array Value}{ds:List Deferred}{k:V->AA}{r v:V}
section more
variable {dst:Option Nat}{ty:TypeId}{pos:String}{AH:Array Edge}{A8:Option (Nat×Bool)}
theorem aPc(H:HR P w0 J h nx w){t:TypeId}{x:Operand}(hT:XR J tm tmps (Op.operands (.unOp .neg t x)).toList)(e:pK (.neg (aE P x)) tm h k=.ok r) :
  ∃v,k v=.ok r/\PG P w J tmps ds ⟨dst,.unOp .neg t x,ty,pos,AH,A8⟩ v:=by
 simp only[pK] at e;obtain⟨c,e1,hc⟩:=opd (ds:=ds) (o:=⟨dst,.unOp .neg t x,ty,pos,AH,A8⟩) H hT (by simp[Op.operands]) e;obtain⟨kd,n,hn,e2⟩:=gk e1;subst hn;have e3:=oI e2;rw[aBk] at e3;exact⟨_,e3,.int kd (kd.wrap (0-n)),by simp[execOp,hc.inv_int,Op.unary,Op.intArith],.int _ _⟩
theorem jl(n:Nat)(h:n<128):Utf8.encode (n:Int)=⟨⟨[UInt8.ofNat n]⟩⟩:=by
 have h1:Utf8.valid (n:Int)=true:=by simp[Utf8.valid];omega
 unfold Utf8.encode;simp only[h1,Dk,Ev];rw[Bo h]
theorem aOZ(H:HR P w0 J h nx w){s d:TypeId}{x:Operand}{ks:IntKind}(hs:P.underlying s=some (.int ks))(hd:P.underlying d=some .string)(hT:XR J tm tmps (Op.operands (.convert s d x)).toList)(e:pK (.cis (aE P x)) tm h k=.ok r) :
  ∃v,k v=.ok r/\PG P w J tmps ds ⟨dst,.convert s d x,ty,pos,AH,A8⟩ v:=by
 simp only[pK] at e;obtain⟨c,e1,hc⟩:=opd (ds:=ds) (o:=⟨dst,.convert s d x,ty,pos,AH,A8⟩) H hT (by simp[Op.operands]) e;obtain⟨k1,n,hn,e2⟩:=jJ e1;subst hn;obtain⟨hg,e3⟩:=bW e2;have AR:=dH hg;have hv:ev tmps ds x=.int k1 (n:Int):=hc.inv_int;refine⟨_,e3,.string ⟨⟨[UInt8.ofNat n]⟩⟩,by simp[execOp,hv,convert,run_underlying hs,run_underlying hd,Conv.intToString,jl n AR],.str _ _ _ rfl ?_⟩;simp[packL];omega
theorem HR.shape(H:HR P w0 J h nx w){o:Q}{b N n:Nat}{t:T V}(ho:J o=some (b,N))(hr:(∃BT B6 ty ex,h.ob o=.row n t BT B6 ty ex)\/h.ob o=.ro n t):∃T m,w.shape? b=some (T,m)/\n<=m:=by
 have:=H.obj o b N ho
 rcases hr with⟨BT,B6,ty,ex,hr⟩|hr
 ·rw[hr] at this
  cases this with|row _ _ _ _ _ _ _ _ vs hb hw hN hn=>exact⟨ty,vs.length,by simp[World.shape?,hw],by omega⟩
 ·rw[hr] at this
  cases this with|ro _ _ _ _ vs T fz hw hn=>exact⟨T,vs.length,by simp[World.shape?,hw],hn⟩
theorem aO0(H:HR P w0 J h nx w){s d t:TypeId}{n:Nat}{x:Operand}(hs:P.underlying s=some (.pointer t))(hd:P.underlying d=some .unsafePointer)(hz:bA P t=some (n+1))(hT:XR J tm tmps (Op.operands (.convert s d x)).toList)
  (e:pK (.ctu (aE P x)) tm h k=.ok r):∃v,k v=.ok r/\PG P w J tmps ds ⟨dst,.convert s d x,ty,pos,AH,A8⟩ v:=by
 simp only[pK] at e;obtain⟨c,e1,hc⟩:=opd (ds:=ds) (o:=⟨dst,.convert s d x,ty,pos,AH,A8⟩) H hT (by simp[Op.operands]) e;obtain⟨j,hj,L3⟩:=k7 hz;cases c<;>simp only at e1<;>first|cases e1|skip
 ·have hv:ev tmps ds x=.pointer none:=by generalize ev tmps ds x=u at hc;cases hc;rfl
  exact⟨_,e1,.pointer none,by simp[execOp,hv,convert,run_underlying hs,run_underlying hd,Conv.unsafePointer],.nilp⟩
 ·obtain⟨b,N,hv,hb⟩:=hc.inv_ptr
  rw[bV] at e1;obtain⟨m,tt,hr,e2⟩:=nu e1;obtain⟨hg,e3⟩:=bW e2;obtain⟨T,M,h1,h2⟩:=H.shape hb hr;have h3:=Lib.run_to_unsafe (P:=P) w ⟨b,_,none⟩ hs hd hj (by omega) h1 (Bx (dH hg) h2);exact⟨_,e3,_,by simp[execOp,hv,h3],.ptr _ _ _ _ hb⟩
theorem aOY(H:HR P w0 J h nx w){s d t:TypeId}{n:Nat}{x:Operand}(hs:P.underlying s=some .unsafePointer)(hd:P.underlying d=some (.pointer t))(hz:bA P t=some (n+1))(hl:liesAt P P.depth t ((n+1)/P.cellsOf t) 0 t 1=true)
  (hT:XR J tm tmps (Op.operands (.convert s d x)).toList) (e:pK (.cfu t (n+1) (aE P x)) tm h k=.ok r):∃v,k v=.ok r/\PG P w J tmps ds ⟨dst,.convert s d x,ty,pos,AH,A8⟩ v:=by
 simp only[pK] at e;obtain⟨c,e1,hc⟩:=opd (ds:=ds) (o:=⟨dst,.convert s d x,ty,pos,AH,A8⟩) H hT (by simp[Op.operands]) e;obtain⟨j,hj,L3⟩:=k7 hz;cases c<;>simp only at e1<;>first|cases e1|skip
 ·have hv:ev tmps ds x=.pointer none:=by generalize ev tmps ds x=u at hc;cases hc;rfl
  exact⟨_,e1,.pointer none,by simp[execOp,hv,convert,run_underlying hs,run_underlying hd,Conv.unsafePointer],.nilp⟩
 ·obtain⟨b,N,hv,hb⟩:=hc.inv_ptr
  rw[bV] at e1
  split at e1
  ·rename_i m tt BT B6 E5 ex BP
   obtain⟨hg,e3⟩:=bW e1;simp only[Ac] at hg;obtain⟨⟨⟨g1,g2⟩,g3⟩,g4⟩:=hg;have h1:=Aa g1;have h2:=Aa g2;have h3:=Aa g3
   have:=H.obj _ b N hb
   rw[BP] at this;cases this with
   |row _ _ _ _ _ _ _ _ vs hB hw hN hn hf he =>
   have hM:=he g4;have PN:w.shape? b=some (t,n+1):=by simp[World.shape?,hw,<-h3,hN];omega
   have h4:=Lib.run_from_unsafe (P:=P) w ⟨b,0,none⟩ hs hd hj PN hl;rw[h1] at hv hc;refine⟨_,e3,.pointer (some ⟨b,0,none⟩),by simp[execOp,hv,h4],?_⟩;rw[h1];exact .ptr _ _ _ _ hb
  ·cases e1
theorem aRB(H:HR P w0 J h nx w){x:Operand}{a:Array Operand}{ts:Array TypeId}(ha:a.toList=[x])(hT:XR J tm tmps (Op.operands (.call ⟨.builtin .unsafeSliceData,a,ts⟩)).toList)(e:pK (.sd (aE P x)) tm h k=.ok r) :
  ∃v,k v=.ok r/\PG P w J tmps ds ⟨dst,.call ⟨.builtin .unsafeSliceData,a,ts⟩,ty,pos,AH,A8⟩ v:=by
 obtain⟨a⟩:=a;simp only at ha;subst ha;simp only[pK] at e;obtain⟨c,e1,hc⟩:=opd (ds:=ds) (o:=⟨dst,.call ⟨.builtin .unsafeSliceData,#[x],ts⟩,ty,pos,AH,A8⟩) H hT (by simp[Op.operands,Call.operands]) e
 have hex:∀u,(Builtin.unsafeSliceData_ ts ty #[ev tmps ds x]).run P w=.ok u w->(execOp (ev tmps ds) ⟨dst,.call ⟨.builtin .unsafeSliceData,#[x],ts⟩,ty,pos,AH,A8⟩).run P w=.ok (.value u) w:=λu hu=>by
  simp[execOp,resolve,invoke,builtin];simp[ev] at hu;simp[hu]
 generalize hg:ev tmps ds x=u at hc hex;cases hc<;>(try simp only at e1)<;>first|cases e1|skip
 ·exact⟨_,e1,.pointer none,hex _ (by rw[show Builtin.unsafeSliceData_ ts ty #[.slice none 0 0]=pure (.pointer none) from rfl];rfl),.nilp⟩
 ·rename_i o off len cap b N hb MJ
  cases len with
  |zero=>cases e1
  |succ len=>exact⟨_,e1,.pointer (some ⟨b,off,none⟩),hex _ (by
    have hd:Builtin.unsafeSliceData_ ts ty #[.slice (some ⟨b,off,none⟩) (len+1) cap]=(if cap≠0 then pure (.pointer (some ⟨b,off,none⟩)) else do if(<-viewAt b).isSome then pure (.pointer (some ⟨b,off,none⟩)) else pure (.pointer (some ⟨<-newObj (.view ⟨b,off,none⟩ (<-elemOf ty)),0,none⟩))):=rfl;rw[hd,Bo (show cap≠0 by omega)];rfl),.ptr _ _ _ _ hb⟩
 ·rename_i o off len sz b N cap hb MJ hr
  cases len with
  |zero=>cases e1
  |succ len=>exact⟨_,e1,.pointer (some ⟨b,off,none⟩),hex _ (by
    have hd:Builtin.unsafeSliceData_ ts ty #[.slice (some ⟨b,off,none⟩) (len+1) cap]=(if cap≠0 then pure (.pointer (some ⟨b,off,none⟩)) else do if(<-viewAt b).isSome then pure (.pointer (some ⟨b,off,none⟩)) else pure (.pointer (some ⟨<-newObj (.view ⟨b,off,none⟩ (<-elemOf ty)),0,none⟩))):=rfl;rw[hd,Bo (show cap≠0 by omega)];rfl),.ptr _ _ _ _ hb⟩
theorem aRC(H:HR P w0 J h nx w){t xt:TypeId}{HM:Bool}{z:V}{x:Operand}{d:TypeDesc}(hu:P.underlying t=some d)(Nw:∀ms,d≠.interface ms)(hz:zeroV P t=some z)(hT:XR J tm tmps (Op.operands (.typeAssert x xt t HM)).toList)
  (e:pK (.ta HM t z (aE P x)) tm h k=.ok r):∃v,k v=.ok r/\PG P w J tmps ds ⟨dst,.typeAssert x xt t HM,ty,pos,AH,A8⟩ v:=by
 simp only[pK] at e;obtain⟨c,e1,hc⟩:=opd (ds:=ds) (o:=⟨dst,.typeAssert x xt t HM,ty,pos,AH,A8⟩) H hT (by simp[Op.operands]) e;obtain⟨zv,HF,GU,_⟩:=sQ (J:=J) hz;have HE:=aS (P:=P) (w:=w) HF;generalize hg:ev tmps ds x=u at hc
 have AZ:∀u',(Instr.typeAssert u xt t HM).run P w=.ok u' w->(execOp (ev tmps ds) ⟨dst,.typeAssert x xt t HM,ty,pos,AH,A8⟩).run P w=.ok (.value u') w:=λu' h'=>by
  simp[execOp,hg,h']
 have MH:∀{y:V},zX HM z k=.ok r->VR J y u->(u=.nilIface\/∃t' v',u=.iface t' v'/\t'≠t)->∃v,k v=.ok r/\PG P w J tmps ds ⟨dst,.typeAssert x xt t HM,ty,pos,AH,A8⟩ v:=λem _ Pq=>by
  cases HM with
  |false=>cases em
  |true =>
   refine⟨_,em,.tuple #[zv,.bool false],AZ _ ?_,GU.tup2 (.bool _)⟩;rcases Pq with rfl|⟨t',v',rfl,BD⟩
   ·cases d<;>first|exact absurd rfl (Nw _)|simp[Instr.typeAssert,run_underlying hu,HE]
   ·cases d<;>first|exact absurd rfl (Nw _)|simp[Instr.typeAssert,run_underlying hu,HE,BD]
 cases c<;>simp only[Of] at e1<;>first|cases e1|skip
 ·have hun:u=.nilIface:=by cases hc;rfl
  exact MH (y:=.nili) e1 hc (.inl hun)
 ·rename_i t' u'
  obtain⟨v',hv,FW⟩:∃v',u=.iface t' v'/\VR J u' v':=by cases hc with|ifc _ _ v' FW=>exact⟨v',rfl,FW⟩
  split at e1
  ·rename_i hb
   have ht:=Aa hb;subst ht;subst hv;cases HM with
   |true=>exact⟨_,e1,.tuple #[v',.bool true],AZ _ (by cases d<;>first|exact absurd rfl (Nw _)|simp[Instr.typeAssert,run_underlying hu]),FW.tup2 (.bool _)⟩
   |false=>exact⟨_,e1,v',AZ _ (by cases d<;>first|exact absurd rfl (Nw _)|simp[Instr.typeAssert,run_underlying hu]),FW⟩
  ·rename_i hb
   exact MH (y:=.ifc t' u') e1 hc (.inr ⟨t',v',hv,λe0=>by rw[e0,Cs] at hb;cases hb⟩)
end more
def bC(x:AA)(k:V->AA):AA :=
 match x with
 |.ok v=>k v
 |e=>e
section nat
variable (k)
theorem rL(v:V):bC (.ok v) k=k v:=rfl
theorem dG(n:Nat):bC (.bad n) k=.bad n:=rfl
theorem nE(x:X)(tm:T V)(g:V->AA):bC (xK x tm g) k=xK x tm λv=>bC (g v) k:=by
 cases x<;>simp only[xK,dZ,dG]
theorem jS(b:Bool)(n:Nat)(g:AA):bC (gd b n g) k=gd b n (bC g k):=by cases b<;>rfl
theorem Xz(v:V)(g:Bool->AA):bC (Jv v g) k=Jv v λx=>bC (g x) k:=by cases v<;>rfl
theorem aN5(v:V)(g:IntKind->Int->AA):bC (MZ v g) k=MZ v λx y=>bC (g x y) k:=by cases v<;>rfl
theorem Xy(v:V)(g:Nat->AA):bC (H3 v g) k=H3 v λx=>bC (g x) k:=by
 cases v with
 |int kd n=>cases n<;>rfl
 |_=>rfl
theorem aQM(v:V)(g:Q->Nat->AA):bC (II v g) k=II v λx y=>bC (g x y) k:=by cases v<;>rfl
theorem aQN(v:V)(g:Nat->Nat->AA):bC (JN v g) k=JN v λx y=>bC (g x y) k:=by cases v<;>rfl
theorem aQL(v:V)(g:List V->AA):bC (ON v g) k=ON v λx=>bC (g x) k:=by cases v<;>rfl
theorem xk(o:O)(g:Nat->T V->AA):bC (br o g) k=br o λx y=>bC (g x y) k:=by cases o<;>rfl
theorem aDB(o:O)(g:List (V×V)->AA):bC (rW o g) k=rW o λx=>bC (g x) k:=by cases o<;>rfl
theorem aAh(kd:IntKind)(n:Int)(g:Int->AA):bC (jH kd n g) k=jH kd n λx=>bC (g x) k:=by
 cases n with
 |ofNat m =>
  simp only[jH,aH];split
  ·rfl
  ·simp only[gS]
 |negSucc m=>simp only[jH,aH,gS]
theorem Yi(b:Bool)(g:V->AA):bC (bK b g) k=bK b λx=>bC (g x) k:=by cases b<;>rfl
theorem aKW(op:BinOp)(a b:V)(g:V->AA):bC (xn op a b g) k=xn op a b λx=>bC (g x) k:=by
 cases a<;>simp only[xn,dG]
 ·cases b<;>simp only[dG,jS]
  congr 1;cases op<;>simp only[rM,aAh,Yi,jS,gS,dG]
 ·cases b<;>simp only[dG]
  cases op<;>simp only[OV,Yi,jS,aH,dG]
theorem aDx(h:T O)(o:Q)(x:Nat)(o':Q)(y:Nat)(g:Bool->AA):bC (Ib h o x o' y g) k=Ib h o x o' y λb=>bC (g b) k:=by
 unfold Ib;split
 ·split
  ·rfl
  ·simp only[bV,jS]
 ·simp only[bV,jS]
theorem aN2(m:EqM)(h:T O)(a b:V)(g:Bool->AA):bC (GR m h a b g) k=GR m h a b λx=>bC (g x) k:=by
 cases m<;>simp only[GR,Xz]
 ·cases a<;>simp only[dG]
  ·cases b<;>simp only[dG]
  ·cases b<;>simp only[dG,aDx]
 all_goals cases a<;>simp only[dG]
theorem aN1(v:V)(g:List V->AA):bC (JM v g) k=JM v λx=>bC (g x) k:=by cases v<;>rfl
theorem gl:∀(l:List V)(off:Nat)(new:List V)(g:List V->AA),bC (qE l off new g) k=qE l off new λx=>bC (g x) k
 |[],0,[],g=>rfl
 |[],0,_::_,g=>rfl
 |[],_+1,_,g=>rfl
 |x::l,0,[],g=>rfl
 |x::l,0,v::vs,g=>by simp only[qE,gl l 0 vs]
 |x::l,off+1,new,g=>by simp only[qE,gl l off new]
theorem aDw(tm:T V):∀(ps:List (Nat×Nat×X))(l:List V)(g:List V->AA),bC (gm tm ps l g) k=gm tm ps l λx=>bC (g x) k
 |[],l,g=>rfl
 |(off,n,x)::ps,l,g=>by simp only[gm,nE,aN1,cI,jS,gl,aDw tm ps]
theorem aN7(h:T O)(o:Q)(off:Nat)(g:V->AA):bC (J8 h o off g) k=J8 h o off λx=>bC (g x) k:=by
 simp only[J8,bV,xk,jS,nY,dZ]
theorem aKY(h:T O)(o:Q)(off n:Nat)(g:List V->AA):bC (nP h o off n g) k=nP h o off n λx=>bC (g x) k:=by
 simp only[nP,bV,xk,jS,rQ]
theorem aDC{α:Type}(l:List α)(n:Nat)(g:α->AA):bC (ym l n g) k=ym l n λx=>bC (g x) k:=by
 simp only[aAU];cases l[n]?<;>rfl
theorem aAg:∀(n:Nat)(l:List V)(g:List V->AA),bC (qK n l g) k=qK n l λx=>bC (g x) k
 |0,l,g=>rfl
 |n+1,[],g=>rfl
 |n+1,v::l,g=>by simp only[qK,aAg n l]
theorem aAf:∀(off n:Nat)(l:List V)(g:List V->AA),bC (vQ off n l g) k=vQ off n l λx=>bC (g x) k
 |0,n,l,g=>by simp only[vQ,aAg]
 |off+1,n,[],g=>rfl
 |off+1,n,v::l,g=>by simp only[vQ,aAf off n l]
theorem aN3(agg:Bool)(off n:Nat)(l:List V)(g:V->AA):bC (N9 agg off n l g) k=N9 agg off n l λx=>bC (g x) k:=by
 cases agg<;>simp only[N9,aDC,aAf]
theorem aGX(sz:Nat)(v:V)(i:Nat)(g:V->AA):bC (x9 sz v i g) k=x9 sz v i λx=>bC (g x) k:=by
 cases v<;>simp only[x9,dG,jS,aH]
theorem aDA(v:V)(g:Nat->AA):bC (mi v g) k=mi v λx=>bC (g x) k:=by cases v<;>rfl
theorem aDD(x:Option X)(tm:T V)(d:Nat)(g:Nat->AA):bC (zH x tm d g) k=zH x tm d λn=>bC (g n) k:=by
 cases x<;>simp only[zH,nE,Xy]
theorem aKX(sz:Nat)(v:V)(lo hi:Nat)(mx:Option Nat)(g:V->AA):bC (bg sz v lo hi mx g) k=bg sz v lo hi mx λx=>bC (g x) k:=by
 cases v<;>cases mx<;>simp only[bg,dG,jS,aH]
 ·congr 1;split<;>rfl
 ·congr 1;split<;>rfl
 ·congr 1;split
  ·rfl
  ·split<;>rfl
 ·congr 1;split<;>rfl
theorem aBR(f:FK)(x y:V)(g:Bool->AA):bC (hU f x y g) k=hU f x y λb=>bC (g b) k:=by
 cases f<;>cases x<;>simp only[hU,dG]<;>cases y<;>simp only[dG,jS]
theorem xS:∀(fs:List FK)(xs ys:List V)(g:Bool->AA),bC (gK fs xs ys g) k=gK fs xs ys λb=>bC (g b) k
 |[],[],[],g=>rfl
 |[],[],_::_,g=>rfl
 |[],_::_,_,g=>rfl
 |_::_,[],_,g=>rfl
 |_::_,_::_,[],g=>rfl
 |f::fs,x::xs,y::ys,g=>by
  simp only[gK,aBR];congr 1;funext b;cases b
  ·rfl
  ·exact xS fs xs ys g
theorem aDz(s:KK)(h:T O)(x y:V)(g:Bool->AA):bC (eC s h x y g) k=eC s h x y λb=>bC (g b) k:=by
 cases s<;>cases x<;>simp only[eC,dG]<;>cases y<;>simp only[dG,jS,aDx,xS]
theorem aAe(s:KK)(h:T O)(x:V):∀(es:List (V×V))(g:V->AA)(kn:AA),bC (fZ s h x es g kn) k=fZ s h x es (λv=>bC (g v) k) (bC kn k)
 |[],g,kn=>rfl
 |(y,v)::es,g,kn=>by
  simp only[fZ,aDz];congr 1;funext b;cases b
  ·exact aAe s h x es g kn
  ·rfl
theorem aDy(s:KK)(x:V)(g:AA):bC (hY s x g) k=hY s x (bC g k):=by
 cases s<;>simp only[hY]
 cases x<;>simp only[dG,cI,jS]
theorem aJu(tm:T V):∀(xs:List X)(g:List V->AA),bC (H4 xs tm g) k=H4 xs tm λx=>bC (g x) k
 |[],g=>rfl
 |x::xs,g=>by
  have h1:∀g,H4 (x::xs) tm g=xK x tm λv=>H4 xs tm λl=>g (v::l):=λg=>rfl
  rw[h1,h1,nE];congr 1;funext v;rw[aJu tm xs]
end nat
theorem yw(b:PB)(tm:T V)(h:T O)(k:V->AA):pK b tm h k=bC (pK b tm h .ok) k:=by
 cases b
 case pick c x y =>
  simp only[pK,nE,Xz];congr 1;funext v;congr 1;funext t;cases t<;>simp only[nE,rL]
 case nck x =>
  simp only[pK,nE];congr 1;funext v;cases v<;>rfl
 case ctu x =>
  simp only[pK,nE];congr 1;funext v;cases v<;>first|rfl|simp only[dG,rL,bV,xk,jS]
 case cfu ty n x =>
  simp only[pK,nE];congr 1;funext v;cases v<;>first|rfl|simp only[dG,rL,bV]
  rename_i o off;cases h.ob o<;>first|rfl|simp only[dG,jS,rL]
 case sd x =>
  simp only[pK,nE];congr 1;funext v;cases v<;>first|rfl|skip
  ·rename_i o off len cap
   cases len<;>rfl
  ·rename_i o off len cap
   cases len<;>rfl
 case slL sz x lo hi mx =>
  simp only[pK,nE,aDA,aDD];congr 1;funext v;congr 1;funext l;congr 1;funext a;congr 1;funext b;cases mx<;>simp only[aKX,nE,Xy,rL]
 case lk s ok z m key =>
  simp only[pK,nE];congr 1;funext m;congr 1;funext x;rw[aDy];congr 1;cases m<;>simp only[dG]
  ·cases ok<;>rfl
  ·simp only[bV,aDB]
   congr 1;funext es;cases ok<;>simp only[aAe,rL]
 case lenM x =>
  simp only[pK,nE];congr 1;funext v;cases v<;>simp only[dG,rL,bV,aDB,cI]
 case ta ok t z x =>
  simp only[pK,nE];congr 1;funext v;cases v<;>simp only[Of,zX,dG]
  ·cases ok<;>rfl
  ·rename_i t' u
   cases Nat.beq t' t<;>cases ok<;>rfl
 case max x y =>
  simp only[pK,nE,aN5];congr 1;funext a;congr 1;funext b;congr 1;funext ka n;congr 1;funext kb m;cases LB m n<;>rfl
 case ex i x =>
  simp only[pK,nE];congr 1;funext v;cases v<;>simp only[dG,aDC,rL]
 all_goals simp only[pK,nE,jS,Xz,aN5,Xy,aQM,aQN,aQL,aAh,Yi,aKW,aN2,aDw,aN7,aKY,aN3,aGX,aDA,aDD,aJu,rL,dG,aH]
theorem sB{b:PB}(e:pK b tm h k=.ok r):∃v,pK b tm h .ok=.ok v/\k v=.ok r:=by
 rw[yw] at e;cases hp:pK b tm h .ok with
 |ok v=>rw[hp] at e;exact⟨v,rfl,e⟩
 |bad n=>rw[hp] at e;cases e
 |fuel=>rw[hp] at e;cases e
theorem aA3{b:PB}(hb:SU b=false)(h h':T O):pK b tm h k=pK b tm h' k:=by
 cases b<;>first|rfl|cases hb
theorem k8{o:Option PB}{b:PB}(hb:H7 o=.p b):o=some b\/b=.bad:=by
 cases o with
 |none=>simp only[H7] at hb;cases hb;exact .inr rfl
 |some p=>simp only[H7] at hb;cases hb;exact .inl rfl
theorem US{o:Option AB}{b:PB}(hb:KD o=.p b):b=.bad:=by
 cases o<;>simp only[KD] at hb<;>cases hb;rfl
theorem U2{o:Option WB}{b:PB}(hb:KC o=.p b):b=.bad:=by
 cases o<;>simp only[KC] at hb<;>cases hb;rfl
theorem aFG(H:HR P w0 J h nx w){o:Oper}{b:PB}(hb:bY P o=.p b)(hT:XR J tm tmps o.op.operands.toList)(e:pK b tm h k=.ok r):∃v,k v=.ok r/\PG P w J tmps ds o v:=by
 have bad:b=.bad->∃v,k v=.ok r/\PG P w J tmps ds o v:=λhb=>by subst hb;cases e
 obtain⟨dst,op,ty,pos,AH,A8⟩:=o;cases op<;>simp only[bY] at hb
 case move x=>cases hb;exact aMy H hT e
 case assign x=>cases hb;exact aFJ H hT e
 case pick c x y=>cases hb;exact aMz H hT e
 case alloc t=>exact bad (US hb)
 case box t x=>exact bad (US hb)
 case build t parts =>
  rcases k8 hb with hb|hb
  ·obtain⟨z,hz,hb⟩:=dC hb
   obtain⟨ps,hp,hb⟩:=k7 hb;subst hb;exact aOX H hz hp hT e
  ·exact bad hb
 case buildSlice t len parts=>exact bad (US hb)
 case load t a =>
  rcases k8 hb with hb|hb
  ·obtain⟨g,hg,hb⟩:=dC hb
   obtain⟨s,hs,hb⟩:=dC hb;cases g with
   |true=>simp at hb;subst hb;exact aO7 H hg hs hT e
   |false =>
    simp only at hb
    split at hb
    ·simp at hb;subst hb;exact aO6 H hg hT e
    ·cases hb
  ·exact bad hb
 case store t a x=>exact bad (U2 hb)
 case nilCheck x=>cases hb;exact aPb H hT e
 case binOp op t x y yt=>cases hb;exact aIz H hT e
 case unOp op t x =>
  cases op<;>simp only at hb<;>cases hb<;>first|exact bad rfl|exact aMA H hT e|exact aPc H hT e
 case convert s d x =>
  split at hb
  ·cases hb;rename_i hs hd;exact aO1 H hs hd hT e
  ·cases hb;rename_i hs hd;exact aO2 H hs hd hT e
  ·cases hb;rename_i hs hd;exact aOZ H hs hd hT e
  ·rename_i hs hd
   split at hb
   ·cases hb;rename_i hz;exact aO0 H hs hd hz hT e
   ·cases hb;exact bad rfl
  ·rename_i hs hd
   split at hb
   ·rename_i hz
    split at hb
    ·cases hb;rename_i hl;exact aOY H hs hd hz hl hT e
    ·cases hb;exact bad rfl
   ·cases hb;exact bad rfl
  ·split at hb
   ·cases hb
   ·cases hb;exact bad rfl
  ·cases hb;exact bad rfl
 case makeInterface t x =>
  split at hb
  ·cases hb;exact bad rfl
  ·cases hb;rename_i d hd hu;exact aPa H hu (λm hm=>hd m hm) hT e
  ·cases hb;exact bad rfl
 case makeFunc fn first caps =>
  split at hb
  ·cases hb;exact aO9 H hT e
  ·cases hb;exact bad rfl
 case makeMap t r =>
  split at hb
  ·cases hb
  ·cases hb;exact bad rfl
 case makeSlice t l c=>exact bad (US hb)
 case slice t x lo hi mx =>
  split at hb
  ·cases hb;rename_i hu;exact aPe H hu hT e
  ·rename_i el _ hu
   split at hb
   ·cases hb;exact bad rfl
   ·rename_i Vi
    rcases k8 hb with hb|hb
    ·obtain⟨s,hs,hb⟩:=k7 hb
     subst hb;exact aPd H hu hs Vi hT e
    ·exact bad hb
  ·cases hb;exact bad rfl
 case fieldAddr t x f =>
  rcases k8 hb with hb|hb
  ·obtain⟨ot,hf,hb⟩:=dC hb
   obtain⟨s,hs,hb⟩:=dC hb
   split at hb
   ·rename_i h0
    simp at hb;subst hb;exact aRx H hf hs h0 hT e
   ·cases hb
  ·exact bad hb
 case field t x f =>
  rcases k8 hb with hb|hb
  ·obtain⟨ot,hf,hb⟩:=dC hb
   obtain⟨s,hs,hb⟩:=dC hb;obtain⟨g,hg,hb⟩:=k7 hb;subst hb;exact aRy H hf hs hg hT e
  ·exact bad hb
 case indexAddr t x i =>
  split at hb
  ·rename_i el hu
   rcases k8 hb with hb|hb
   ·obtain⟨s,hs,hb⟩:=k7 hb
    subst hb;exact aRz H hu hs hT e
   ·exact bad hb
  ·rename_i len el hu
   rcases k8 hb with hb|hb
   ·obtain⟨s,hs,hb⟩:=k7 hb
    subst hb;exact aO3 H hu hs hT e
   ·exact bad hb
  ·cases hb;exact bad rfl
 case index t x i =>
  split at hb
  ·cases hb;rename_i hu;exact aO5 H hu hT e
  ·rename_i len el hu
   rcases k8 hb with hb|hb
   ·obtain⟨s,hs,hb⟩:=dC hb
    obtain⟨g,hg,hb⟩:=k7 hb;subst hb;exact aO4 H hu hs hg hT e
   ·exact bad hb
  ·cases hb;exact bad rfl
 case lookup t m key ok =>
  split at hb
  ·rename_i s el ht
   rcases k8 hb with hb|hb
   ·obtain⟨z,hz,hb⟩:=k7 hb
    subst hb;exact aRA H ht hz hT e
   ·exact bad hb
  ·cases hb;exact bad rfl
 case mapUpdate t m key x=>split at hb<;>cases hb;exact bad rfl
 case insert t m key x=>split at hb<;>cases hb;exact bad rfl
 case mapEntry t m key =>
  split at hb
  ·exact bad (U2 hb)
  ·cases hb;exact bad rfl
 case entryStore t m s x=>cases hb
 case extract x i=>cases hb;exact aRw H hT e
 case typeAssert x xt t HM =>
  rcases k8 hb with hb|hb
  ·obtain⟨d,hd,hb⟩:=dC hb
   split at hb
   ·cases hb
   ·rename_i Nw
    obtain⟨z,hz,hb⟩:=k7 hb;subst hb;exact aRC H hd (λms e0=>Nw ms e0) hz hT e
  ·exact bad hb
 case call c =>
  obtain⟨Nf,a,ts⟩:=c;cases Nf<;>simp only[gZ] at hb
  ·cases hb
  ·cases hb
  ·split at hb
   ·exact bad (U2 hb)
   ·rename_i x t ha EI
    split at hb
    ·cases hb;rename_i hu;exact Y4 H ha EI (.inl ⟨hu,rfl⟩) hT e
    ·cases hb;rename_i hu;exact Y4 H ha EI (.inr (.inl ⟨_,hu,rfl⟩)) hT e
    ·cases hb;rename_i hu;exact Y4 H ha EI (.inr (.inr ⟨_,_,hu,rfl⟩)) hT e
    ·cases hb;exact bad rfl
   ·exact bad (U2 hb)
   ·cases hb;rename_i ha;exact aRB H ha hT e
   ·split at hb
    ·split at hb
     ·cases hb
     ·cases hb;exact bad rfl
    ·cases hb;exact bad rfl
   ·cases hb;rename_i ha;exact aO8 H ha hT e
   ·cases hb
   ·cases hb;exact bad rfl
 case defer c =>
  split at hb
  ·cases hb
  ·split at hb
   ·split at hb<;>cases hb;exact bad rfl
   ·cases hb;exact bad rfl
  ·cases hb;exact bad rfl
 all_goals (cases hb;exact bad rfl)
end
section
open Go.AM (oneC overwrite aR aN run_underlying run_sizeOf cY aS bA bO aU aT AY b8 cF bytes_beq run_getObj run_setObj heap_alloc_new kA)
variable {P:Program}{w0 w:World}{J:Rho}{h:T O}{nx:Q}{tm:T V}{tmps:Array Value}{ds:List Deferred}{r v:V}
theorem mI:∀(a b:List V)(i:Nat)(t:T V),dP (a++b) i t=dP b (i+a.length) (dP a i t)
 |[],b,i,t=>by simp[dP]
 |v::a,b,i,t=>by
  simp only[Dl,dP,mI a b,Ay];rw[show i+1+a.length=i+(a.length+1) by omega]
theorem uX(z:List V):∀(n i:Nat)(t:T V),ov z n i t=dP (nZ z n) i t
 |0,i,t=>rfl
 |n+1,i,t=>by simp only[ov,nZ,mI,uX z n]
theorem kW(z:List V):∀n,(nZ z n).length=n*z.length
 |0=>by simp[nZ]
 |n+1=>by simp[nZ,kW z n,Ct,Nat.add_comm]
theorem zR(z:List V):∀(n j:Nat) c,(nZ z n)[j]?=some c->z[j%z.length]?=some c
 |0,j,c,h=>by simp[nZ] at h
 |n+1,j,c,h=>by
  simp only[nZ] at h;rw[Cf] at h
  split at h
  ·rename_i hj
   rw[Ey hj];exact h
  ·rename_i hj
   have:=zR z n _ c h
   rw[<-Nat.mod_eq_sub_mod (by omega)] at this;exact this
theorem zD:∀(vs:List V)(n:Nat)(t:T V),T.ofListF V.undef vs (qn n) t=dP vs n t
 |[],n,t=>rfl
 |v::vs,n,t=>by simp only[T.ofListF,dP,aBa,zD vs]
theorem ofList_eq(vs:List V):T.ofList vs=dP vs 0 .nil:=zD vs 0 .nil
def TL(t:T V)(L:List V):Prop:=∀(j:Nat) c,L[j]?=some c->t.at j=c
theorem TL.puts(L:List V)(t:T V):TL (dP L 0 t) L:=λj c hc=>by
 have hj:j<L.length:=(Ab.1 hc).1;rw[jF,Bo ⟨by omega,by omega⟩];simp[Br,hc]
theorem TL.over{t:T V}{L c:List V}{off:Nat}(h:TL t L)(hle:off+c.length<=L.length):TL (dP c off t) (overwrite L off c):=λj x hx=>by
 rw[aR _ _ _ _ hle] at hx;rw[jF];by_cases h1:j<off
 ·rw[Bo h1] at hx
  rw[Ax (by omega)];exact h j x hx
 ·rw[Ax h1] at hx
  by_cases h2:j<off+c.length
  ·rw[Bo h2] at hx
   rw[Bo ⟨by omega,h2⟩,Br,hx];rfl
  ·rw[Ax h2] at hx
   rw[Ax (by omega)];exact h j x hx
theorem OR.new{J':Rho}{L:List V}{vs:List Value}{t:T V}{T':TypeId}{B0:Nat}(hB:B0<=w.heap.size)(ht:TL t L)(hv:VRs J' L vs)(hk:∀c∈L,isCell c=true) :
  OR P J' (w.alloc (.cells ⟨vs⟩ T')) B0 (.row L.length t [] 0 T' true) w.heap.size vs.length :=
 .row _ _ _ _ _ _ _ _ vs hB (AM.heap_alloc_new _) rfl (by rw[hv.1];exact Ae _) (En _) (λ_=>hv.1) (λa ha=>by cases ha) (λi v hi FW=>by
  have h1:=ht i L[i] (by simp[hi]);rw[h1];exact hv.2 i _ v (by simp[hi]) FW) λi hi=>by
  have h1:=ht i L[i] (by simp[hi]);rw[h1];exact hk _ (El hi)
theorem aAm(H:HR P w0 J h nx w){sz n:Nat}:∀{parts:List (Nat×Operand)}{t:T V}{L:List V}{Ls:List Value}{k:T V->AA},XR J tm tmps (parts.map (·.2))->(∀p∈parts,p.1<n)->L.length=n*sz->TL t L->VRs J L Ls->(∀c∈L,isCell c=true) ->
  vY tm sz (j7 P parts) t k=.ok r->∃t' L' Kk,(∀k',vY tm sz (j7 P parts) t k'=k' t')/\k t'=.ok r/\L'.length=n*sz/\TL t' L'/\VRs J L' Kk/\(∀c∈L',isCell c=true) /\
   Instr.fill (λi=>some (i*sz,sz)) ⟨Ls⟩ (parts.map λp=>(p.1,ev tmps ds p.2))=some ⟨Kk⟩
 |[],t,L,Ls,k,hT,hp,hL,ht,hv,hk,e=>⟨t,L,Ls,λ_=>rfl,e,hL,ht,hv,hk,rfl⟩
 |(i,x)::parts,t,L,Ls,k,hT,hp,hL,ht,hv,hk,e=>by
  have e0:∀k',vY tm sz (j7 P ((i,x)::parts)) t k'=xK (aE P x) tm λv=>JM v λc=>qX c λm=>gd (Nat.beq m sz) 57 (kE c (i*sz) t λt'=>vY tm sz (j7 P parts) t' k'):=λk'=>rfl
  rw[e0] at e;obtain⟨c,h1,e⟩:=eF e;have hc:=fV (ds:=ds) H.glob (hT.sub (λy hy=>by simp at hy;simp[hy])) h1;obtain⟨l,hl,e⟩:=tC e;rw[cI] at e;obtain⟨hg,e⟩:=bW e;rw[dT] at e;have Sa:=Aa hg;obtain⟨g1,g2,g3⟩:=hc.cells hl;have hi:=hp (i,x) (by simp)
  have hle:i*sz+l.length<=L.length:=by
   rw[Sa,hL,<-Nat.succ_mul];exact Cr _ hi
  obtain⟨t',L',Kk,f0,f1,f2,f3,f4,f5,f6⟩:=aAm H (hT.sub (λy hy=>by simp at hy ⊢;exact .inr hy)) (λp LV=>hp p (by simp[LV])) (by rw[aN _ _ _ hle];exact hL) (ht.over hle) (hv.over (off:=i*sz) g1) (eg hk g2) e;refine⟨t',L',Kk,λk'=>?_,f1,f2,f3,f4,f5,?_⟩
  ·rw[e0]
   have hx:∀Mc:V->AA,xK (aE P x) tm Mc=Mc c:=λMc=>by
    cases OC:aE P x with
    |t q=>rw[OC] at h1;simp only[xE,Ak] at h1;subst h1;simp only[xK,dZ]
    |c v=>rw[OC] at h1;simp only[xE,Ak] at h1;subst h1;rfl
    |bad=>rw[OC] at h1;cases h1
   have I6:∀Mc:List V->AA,JM c Mc=Mc l:=λMc=>by
    rcases hl with rfl|⟨h1,rfl⟩
    ·rfl
    ·cases c<;>first|rfl|cases h1
   rw[hx,I6,cI,hg,gd,dT];exact f0 k'
  ·have BG:(ev tmps ds x).cells.size=sz:=by
    have:=g1.1
    rw[Sa] at this;simpa using this.symm
   have LF:i*sz+(ev tmps ds x).cells.size<=Ls.length:=by rw[<-hv.1,BG];rw[Sa] at hle;exact hle
   simp only[Aw,Instr.fill];rw[Ax (by simp[BG];rw[<-BG];simpa[BG] using LF),kA _ _ _ (by simpa using LF)];exact f6
def AE(b:AB)(tm:T V)(ob:O)(mk:Q->V):Prop:=∀k:O->(Q->V)->AA,aK b tm k=k ob mk
theorem fW{x:X}{v:V}(h1:xE tm x=some v)(k:V->AA):xK x tm k=k v:=by
 cases x with
 |t q=>simp only[xE,Ak] at h1;subst h1;simp only[xK,dZ]
 |c v=>simp only[xE,Ak] at h1;subst h1;rfl
 |bad=>cases h1
theorem ib{v:V}{l:List V}(h:VC v l)(k:List V->AA):JM v k=k l:=by
 rcases h with rfl|⟨h1,rfl⟩
 ·rfl
 ·cases v<;>first|rfl|cases h1
structure AG (P:Program) (w0 w:World) (J:Rho) (tmps:Array Value) (ds:List Deferred) (o:Oper) (ob:O) (mk:Q->V):Prop where
 run:∃x N u,(execOp (ev tmps ds) o).run P w=.ok (.value u) (w.alloc x)/\∀q,J q=none->OR P (J.set q w.heap.size N) (w.alloc x) w0.heap.size ob w.heap.size N/\VR (J.set q w.heap.size N) (mk q) u
section
variable {dst:Option Nat}{ty:TypeId}{pos:String}{AH:Array Edge}{A8:Option (Nat×Bool)}{k:O->(Q->V)->AA}
theorem aQc(H:HR P w0 J h nx w){t:TypeId}{z:List V}(hz:mX P t=some z):AG P w0 w J tmps ds ⟨dst,.alloc t,ty,pos,AH,A8⟩ (.row z.length (T.ofList z) [] 0 t true) (λq=>.ptr q 0):=by
 obtain⟨zv,h1,h2,h3,h4,h5⟩:=oJ (J:=J) hz;refine⟨.cells ⟨zv.cells.toList⟩ t,zv.cells.toList.length,.pointer (some ⟨w.heap.size,0,none⟩),?_,λq hq=>⟨?_,?_⟩⟩
 ·simp[execOp,Instr.alloc,aS h1,newVar,newRow]
 ·refine OR.new H.size ?_ (h3.mono (Rho.set_le hq)) h4
  rw[ofList_eq];exact TL.puts _ _
 ·exact .ptr _ _ _ _ Rho.set_same
theorem aQd(H:HR P w0 J h nx w){t:TypeId}{x:Operand}{n:Nat}(hT:XR J tm tmps (Op.operands (.box t x)).toList)(e:aK (.bx t n (aE P x)) tm k=.ok r) :
  ∃ob mk,AE (.bx t n (aE P x)) tm ob mk/\k ob mk=.ok r/\AG P w0 w J tmps ds ⟨dst,.box t x,ty,pos,AH,A8⟩ ob mk:=by
 simp only[aK] at e;obtain⟨c,h1,e1⟩:=eF e;have hc:=fV (ds:=ds) H.glob (hT.sub (by simp[Op.operands])) h1;obtain⟨l,hl,e2⟩:=tC e1;rw[cI] at e2;obtain⟨hg,e3⟩:=bW e2;rw[dT] at e3;obtain⟨g1,g2,g3⟩:=hc.cells hl;have FY:=Aa hg;refine⟨_,_,λk'=>by simp only[aK,fW h1,ib hl,cI,hg,gd,dT],e3,⟨.cells ⟨(ev tmps ds x).cells.toList⟩ t,(ev tmps ds x).cells.toList.length,.pointer (some ⟨w.heap.size,0,none⟩),?_,λq hq=>⟨?_,.ptr _ _ _ _ Rho.set_same⟩⟩⟩
 ·simp[execOp,Instr.box,newVar,newRow]
 ·rw[<-FY]
  exact OR.new H.size (TL.puts _ _) (g1.mono (Rho.set_le hq)) g2
theorem aNq(H:HR P w0 J h nx w){t:TypeId}:AG P w0 w J tmps ds ⟨dst,.makeMap t none,ty,pos,AH,A8⟩ (.map []) (λq=>.map q):=by
 refine⟨.map #[] 0,0,.map (some w.heap.size),?_,λq hq=>⟨.map [] [] 0 _ _ H.size (AM.heap_alloc_new _) ⟨rfl,λi p e h=>by simp at h,λi p e h=>by simp at h⟩ ⟨rfl,λi e h=>by simp at h⟩,.map _ _ _ Rho.set_same⟩⟩;simp[execOp,Instr.makeMap]
theorem aKe{J':Rho}{z:List V}{zv:Value}(hz:VRs J' z zv.cells.toList)(CR:0<z.length)(n:Nat):VRs J' (nZ z n) ((List.range (n*z.length)).map λp=>zv.cells[p%zv.cells.size]!):=by
 have BG:zv.cells.size=z.length:=by simpa using hz.1.symm
 refine⟨by simp[kW],λj c u hc hu=>?_⟩;have hj:j<n*z.length:=by have:=(Ab.1 hu).1;simpa using this
 simp only[Ao,Cv hj,Bw,Ak] at hu;have h1:=zR z n j c hc;have hm:j%z.length<zv.cells.size:=by rw[BG];exact Fc _ CR
 refine hz.2 (j%z.length) c u h1 ?_;rw[BG] at hu;rw[<-hu];simp[hm]
theorem eo{z:List V}(hk:∀c∈z,isCell c=true)(n:Nat):∀c∈nZ z n,isCell c=true:=λc hc=>by
 obtain⟨j,hj⟩:=Ds hc;exact hk c (Be (zR z n j c hj))
theorem aNp(H:HR P w0 J h nx w){t el:TypeId}{len:Nat}{parts:Array (Nat×Operand)}{z:List V}(hu:P.underlying t=some (.slice el))(hz:mX P el=some z)(CR:0<z.length)(hle:len*z.length<=16777216)(hp:∀p∈parts.toList,p.1<len)
  (hT:XR J tm tmps (Op.operands (.buildSlice t len parts)).toList) (e:aK (.bsl el z.length len (T.ofList (nZ z len)) (j7 P parts.toList)) tm k=.ok r) :
  ∃ob mk,AE (.bsl el z.length len (T.ofList (nZ z len)) (j7 P parts.toList)) tm ob mk/\k ob mk=.ok r/\AG P w0 w J tmps ds ⟨dst,.buildSlice t len parts,ty,pos,AH,A8⟩ ob mk:=by
 simp only[aK] at e;obtain⟨zv,h1,h2,h3,h4,h5⟩:=oJ (J:=J) hz;have OD:XR J tm tmps (parts.toList.map (·.2)):=hT.sub (λx hx=>by simpa[Op.operands] using hx);obtain⟨t',L',Kk,f0,f1,f2,f3,f4,f5,f6⟩:=aAm (ds:=ds) (n:=len) H OD hp (kW z len) (by rw[ofList_eq];exact TL.puts _ _) (aKe h3 CR len) (eo h4 len) e;rw[aH] at f1
 have AZ:(Instr.buildSlice t len (parts.map λ(i,x)=>(i,ev tmps ds x))).run P w=.ok (.slice (some ⟨w.heap.size,0,none⟩) len len) (w.alloc (.cells ⟨Kk⟩ el)):=by
  have BG:zv.cells.size=z.length:=by simpa using h3.1.symm
  have C1:(Array.range (len*z.length)).map (λp=>zv.cells[p%zv.cells.size]!)=⟨(List.range (len*z.length)).map λp=>zv.cells[p%zv.cells.size]!⟩:=by
   apply Cg;simp
  by_cases h0:len*z.length=0
  ·have hlen0:len=0:=by rcases Gx.1 h0 with h'|h'
                        ·exact h'
                        ·omega
   subst hlen0;simp only[Hk,List.range_zero,Au] at f6;simp only[Instr.buildSlice,Sem.run_bind,run_underlying hu,Result.andThen_ok,run_sizeOf h2];simp;have Na:Instr.fill (λi=>some (i*z.length,z.length)) #[] (parts.map λ(i,x)=>(i,ev tmps ds x)).toList=some ⟨Kk⟩:=by simpa using f6
   simp at Na;have LQ:Array.map (λ_:Nat=>(default:Value)) (Array.range 0)=#[]:=by apply Cg;simp
   simp[LQ,Na,newRow]
  ·have EG:¬len*z.length>2^24:=by omega
   simp only[Instr.buildSlice,Sem.run_bind,run_underlying hu,Result.andThen_ok,run_sizeOf h2]
   have Na:Instr.fill (λi=>some (i*z.length,z.length)) ((Array.range (len*z.length)).map (λp=>zv.cells[p%zv.cells.size]!)) (parts.map λ(i,x)=>(i,ev tmps ds x)).toList=some ⟨Kk⟩:=by
    rw[C1];simpa using f6
   rw[Ax EG];simp only[Ax h0,Sem.run_bind,aS h1,Result.andThen_ok,Sem.run_pure,Na,newRow,run_newObj];rfl
 have hlen:len*z.length=L'.length:=f2.symm;refine⟨_,_,λk'=>by simp only[aK];rw[f0,aH],f1,⟨.cells ⟨Kk⟩ el,Kk.length,.slice (some ⟨w.heap.size,0,none⟩) len len,?_,λq hq=>⟨?_,.sl _ _ _ _ _ _ Rho.set_same (Ae _)⟩⟩⟩
 ·simp[execOp,AZ]
 ·rw[hlen]
  exact OR.new H.size f3 (f4.mono (Rho.set_le hq)) f5
end
end
section
open Go.AM (oneC overwrite aR aN run_underlying run_sizeOf cY aS bA bO aU aT AY b8 cF bytes_beq run_getObj run_setObj heap_alloc_new kA)
variable {P:Program}{w0 w:World}{J:Rho}{h:T O}{nx:Q}{tm:T V}{tmps:Array Value}{ds:List Deferred}{r v:V}
section
variable {dst:Option Nat}{ty:TypeId}{pos:String}{AH:Array Edge}{A8:Option (Nat×Bool)}{k:O->(Q->V)->AA}
theorem jX{t e:TypeId}(h:aT P t=some e):P.underlying t=some (.slice e):=by
 unfold aT at h
 split at h
 ·cases h;assumption
 ·cases h
theorem aNr(H:HR P w0 J h nx w){t el:TypeId}{l c:Operand}{z:List V}(hu:P.underlying t=some (.slice el))(hz:mX P el=some z)(CR:0<z.length)(JJ:aU P el<=16384)
  (hT:XR J tm tmps (Op.operands (.makeSlice t l c)).toList) (e:aK (.mks el z.length z (aE P l) (aE P c)) tm k=.ok r) :
  ∃ob mk,AE (.mks el z.length z (aE P l) (aE P c)) tm ob mk/\k ob mk=.ok r/\AG P w0 w J tmps ds ⟨dst,.makeSlice t l c,ty,pos,AH,A8⟩ ob mk:=by
 simp only[aK] at e;obtain⟨zv,h1,h2,h3,h4,h5⟩:=oJ (J:=J) hz;obtain⟨a,ha,e1⟩:=eF e;obtain⟨kl,ln,hl,e2⟩:=jJ e1;obtain⟨b,hb,e3⟩:=eF e2;obtain⟨kc,cn,hc,e4⟩:=jJ e3;obtain⟨hg,e5⟩:=bW e4;rw[pL,uX,aH] at e5;have SW:=fV (ds:=ds) H.glob (hT.sub (by simp[Op.operands])) ha;have SV:=fV (ds:=ds) H.glob (hT.sub (by simp[Op.operands])) hb;rw[hl] at SW;rw[hc] at SV;have SW:=SW.inv_int;have SV:=SV.inv_int;have Pj:=hg;rw[Ac] at hg;have g1:=Ah hg.1;have g2:=Ah hg.2;have hrep:(nZ z cn).length=cn*z.length:=kW z cn;refine⟨_,_,λk'=>?_,e5,⟨.cells ⟨(List.range (cn*z.length)).map λp=>zv.cells[p%zv.cells.size]!⟩ el,cn*z.length,.slice (some ⟨w.heap.size,0,none⟩) ln cn,?_,λq hq=>⟨?_,.sl _ _ _ _ _ _ Rho.set_same g1⟩⟩⟩
 ·simp only[aK,fW ha,fW hb,hl,hc,H3,Pj,gd,pL,uX,aH]
 ·have w1:IntKind.i64.wrap (ln:Int)=ln:=aw .i64 ln (by simp only[LD];omega)
  have w2:IntKind.i64.wrap (cn:Int)=cn:=aw .i64 cn (by simp only[LD];omega);have hm:aU P el*cn<=16384*16777216:=Gh JJ g2;obtain⟨ti,D0,IQ⟩:=dC h1;have hbt:ti.bytes=aU P el:=by simp[aU,D0]
  have Jk:¬((ti.bytes:Int)*(cn:Int)>281474976710656):=by
   rw[hbt]
   have:((aU P el:Nat):Int)*(cn:Int)=((aU P el*cn:Nat):Int):=by simp
   rw[this];omega
  have hva':ev tmps ds l=.int kl (ln:Int):=SW;have hvb':ev tmps ds c=.int kc (cn:Int):=SV;have Hr:¬((cn:Int)<(ln:Int)):=by omega
  have CD:((decide ((cn:Int)<0)||decide ((ti.bytes:Int)*(cn:Int)>2^48))=true\/(ln:Int)<0\/(cn:Int)<(ln:Int))=False:=by
   simp;omega
  have C1:(Array.range (cn*z.length)).map (λp=>zv.cells[p%zv.cells.size]!)=⟨(List.range (cn*z.length)).map λp=>zv.cells[p%zv.cells.size]!⟩:=by
   apply Cg;simp
  have LI:(decide ((cn:Int)<0)||decide ((ti.bytes:Int)*(cn:Int)>2^48))=false:=by
   rw[Dv,Av,Av];exact⟨by omega,by simpa using Jk⟩
  have AZ:(Instr.makeSlice t (ev tmps ds l) (ev tmps ds c)).run P w=.ok (.slice (some ⟨w.heap.size,0,none⟩) ln cn) (w.alloc (.cells ⟨(List.range (cn*z.length)).map λp=>zv.cells[p%zv.cells.size]!⟩ el)):=by
   rw[hva',hvb'];simp only[Instr.makeSlice,Sem.run_bind,run_underlying hu,Result.andThen_ok,asInt,Sem.run_pure,typeInfo,D0,w1,w2,LI];by_cases h0:cn*z.length=0
   ·have hcn:cn=0:=by rcases Gx.1 h0 with h'|h'
                      ·exact h'
                      ·omega
    subst hcn;have FY:ln=0:=by omega
    subst FY;have w3:IntKind.i64.wrap 0=0:=by decide
    have LQ:Array.map (λ_:Nat=>(default:Value)) (Array.range 0)=⟨[]⟩:=by apply Cg;simp
    simp[asIntOf,D0,run_sizeOf h2,newRow,w3,LQ]
   ·have Vf:¬(281474976710656<(ti.bytes:Int)*(cn:Int)):=Jk
    simp[asIntOf,D0,run_sizeOf h2,h0,Hr,aS h1,newRow,C1,w1,w2,Vf];intro hx;omega
  simp[execOp,AZ]
 ·rw[<-hrep]
  have hzi:=aKe (h3.mono (Rho.set_le (b:=w.heap.size) (N:=(nZ z cn).length) hq)) CR cn
  have:=OR.new (P:=P) (w:=w) (T':=el) (B0:=w0.heap.size) H.size (TL.puts (nZ z cn) .nil) hzi (eo h4 cn)
  rw[<-hzi.1,<-hrep] at this;exact this
theorem nc{o:Option AB}{b:AB}(hb:KD o=.a b):o=some b:=by
 cases o with
 |none=>cases hb
 |some p=>simp only[KD] at hb;cases hb;rfl
theorem qC{o:Option PB}{b:AB}(hb:H7 o=.a b):False:=by cases o<;>cases hb
theorem U3{o:Option WB}{b:AB}(hb:KC o=.a b):False:=by cases o<;>cases hb
theorem aDj(H:HR P w0 J h nx w){o:Oper}{b:AB}(hb:bY P o=.a b)(hT:XR J tm tmps o.op.operands.toList)(e:aK b tm k=.ok r) :
  ∃ob mk,AE b tm ob mk/\k ob mk=.ok r/\AG P w0 w J tmps ds o ob mk:=by
 obtain⟨dst,op,ty,pos,AH,A8⟩:=o;cases op<;>simp only[bY] at hb
 case alloc t =>
  obtain⟨z,hz,hb⟩:=k7 (nc hb);subst hb;exact⟨_,_,λ_=>rfl,e,aQc H hz⟩
 case box t x =>
  obtain⟨s,hs,hb⟩:=k7 (nc hb);subst hb;exact aQd H hT e
 case buildSlice t len parts =>
  obtain⟨el,GD,hb⟩:=dC (nc hb);obtain⟨z,hz,hb⟩:=dC hb
  split at hb
  ·rename_i hg
   simp at hb;subst hb;rw[Ac,Ac] at hg;exact aNp H (jX GD) hz (dH hg.1.1) (Ah hg.1.2) (λp hp=>dH (An.1 hg.2 p hp)) hT e
  ·cases hb
 case makeMap t r' =>
  split at hb
  ·cases hb;exact⟨_,_,λ_=>rfl,e,aNq H⟩
  ·cases hb
 case makeSlice t l c =>
  obtain⟨el,GD,hb⟩:=dC (nc hb);obtain⟨z,hz,hb⟩:=dC hb
  split at hb
  ·rename_i hg
   simp at hb;subst hb;rw[Ac] at hg;exact aNr H (jX GD) hz (dH hg.1) (Ah hg.2) hT e
  ·cases hb
 case binOp op t x y yt=>cases hb
 case build t parts=>exact(qC hb).elim
 case load t a=>exact(qC hb).elim
 case store t a x=>exact(U3 hb).elim
 case unOp op t x=>cases op<;>cases hb
 case convert s d x =>
  split at hb
  ·cases hb
  ·cases hb
  ·cases hb
  ·split at hb<;>cases hb
  ·split at hb
   ·split at hb<;>cases hb
   ·cases hb
  ·split at hb<;>cases hb
  ·cases hb
 case makeInterface t x=>split at hb<;>cases hb
 case makeFunc fn first caps=>split at hb<;>cases hb
 case slice t x lo hi mx =>
  split at hb
  ·cases hb
  ·split at hb
   ·cases hb
   ·exact(qC hb).elim
  ·cases hb
 case fieldAddr t x f=>exact(qC hb).elim
 case field t x f=>exact(qC hb).elim
 case indexAddr t x i =>
  split at hb
  ·exact(qC hb).elim
  ·exact(qC hb).elim
  ·cases hb
 case index t x i =>
  split at hb
  ·cases hb
  ·exact(qC hb).elim
  ·cases hb
 case lookup t m key ok =>
  split at hb
  ·exact(qC hb).elim
  ·cases hb
 case mapUpdate t m key x=>split at hb<;>cases hb
 case insert t m key x=>split at hb<;>cases hb
 case mapEntry t m key =>
  split at hb
  ·exact(U3 hb).elim
  ·cases hb
 case call c =>
  obtain⟨Nf,a,ts⟩:=c;cases Nf<;>simp only[gZ] at hb
  ·cases hb
  ·cases hb
  ·split at hb
   ·exact(U3 hb).elim
   ·split at hb<;>cases hb
   ·exact(U3 hb).elim
   ·cases hb
   ·split at hb
    ·split at hb<;>cases hb
    ·cases hb
   ·cases hb
   ·cases hb
   ·cases hb
 case defer c =>
  split at hb
  ·cases hb
  ·split at hb
   ·split at hb<;>cases hb
   ·cases hb
  ·cases hb
 case typeAssert x xt t HM=>exact(qC hb).elim
 all_goals cases hb
end
end
section
open Go.AM (oneC overwrite aR aN run_underlying run_sizeOf aS bA bO aU aT b8 cF bytes_beq run_getObj run_setObj heap_alloc_new heap_alloc_old fQ b9)
variable {P:Program}{w0 w:World}{J:Rho}{h:T O}{nx:Q}{tm:T V}{tmps:Array Value}{ds:List Deferred}{r v:V}
def R7:O->Bool
 |.dead=>false
 |.ro _ _=>false
 |_=>true
theorem Sh.dead(x:O)(q:Q):Sh x .dead q:=by cases x<;>simp[Sh]
theorem Sh.of_not{x y:O}{q:Q}(h:R7 x=false):Sh x y q:=by cases x<;>first|trivial|cases h
theorem HR.upd(H:HR P w0 J h nx w){o:Q}{b N:Nat}{x:Obj}(ho:J o=some (b,N))(hB:w0.heap.size<=b){h':T O}
  (h1:OR P J (w.putObj b x) w0.heap.size (h'.ob o) b N) (h2:∀q,q≠o->h'.ob q=h.ob q\/h'.ob q=.dead)
  (h3:∀q N',q≠o->J q=some (b,N')->OR P J (w.putObj b x) w0.heap.size (h'.ob q) b N'/\Sh (h'.ob o) (h'.ob q) q/\R7 (h'.ob q)=false):HR P w0 J h' nx (w.putObj b x):=by
 have Ji:∀b',b'≠b->(w.putObj b x).heap[b']?=w.heap[b']?:=λb' AX=>World.putObj_heap_other AX
 have BG:(w.putObj b x).heap.size=w.heap.size:=by simp
 refine⟨by rw[BG];exact H.size,λb' AX=>by rw[Ji b' (by omega)];exact H.old b' AX,H.os,H.tape,H.output,H.glob,H.fresh,λq b' N' e=>by rw[BG];exact H.lt q b' N' e,λq b' N' e=>?_,λq q' b' N1 N2 BD e1 e2=>?_,λq hq=>?_⟩
 ·by_cases hq:q=o
  ·subst hq
   rw[ho] at e;simp at e;obtain⟨rfl,rfl⟩:=e;exact h1
  ·by_cases AX:b'=b
   ·subst AX;exact(h3 q N' hq e).1
   ·rcases h2 q hq with h4|h4
    ·rw[h4];exact(H.obj q b' N' e).mono (Rho.le_refl _) (Ji b' AX)
    ·rw[h4];exact .dead _ _
 ·by_cases hq:q=o
  ·subst hq
   rw[ho] at e1;simp at e1;obtain⟨rfl,rfl⟩:=e1;exact(h3 q' N2 (λe=>BD e.symm) e2).2.1
  ·by_cases JG:q'=o
   ·subst JG
    rw[ho] at e2;simp at e2;obtain⟨rfl,rfl⟩:=e2;exact Sh.of_not (h3 q N1 hq e1).2.2
   ·rcases h2 q hq with h4|h4
    ·rcases h2 q' JG with h5|h5
     ·rw[h4,h5];exact H.sep q q' b' N1 N2 BD e1 e2
     ·rw[h5];exact Sh.dead _ _
    ·rw[h4];trivial
 ·rcases h2 q (λe=>by subst e;rw[H.fresh _ hq] at ho;cases ho) with h4|h4
  ·rw[h4];exact H.dead q hq
  ·exact h4
theorem Keep.of{β:Nat}{h':T O}(hk:∀q,J q=none->h'.ob q=h.ob q):Keep β J h J h':=⟨Rho.le_refl _,λq _ hq=>⟨hq,hk q hq⟩⟩
theorem cB(h:T O)(o:O)(p q:Q):(h.put .dead o p).ob q=if p=q then o else h.ob q:=T.get_put _ _ _ _ _
def yV:List Q->T O->T O
 |[],h=>h
 |q::qs,h=>yV qs (h.put .dead .dead q)
theorem sn:∀(qs:List Q)(h:T O)(k:T O->AA),yU qs h k=k (yV qs h)
 |[],h,k=>rfl
 |q::qs,h,k=>by simp only[yU,cM,sn qs,yV]
theorem rV:∀(qs:List Q)(h:T O)(q:Q),(yV qs h).ob q=if q∈qs then .dead else h.ob q
 |[],h,q=>by simp[yV]
 |p::qs,h,q=>by
  simp only[yV,rV qs,cB];by_cases h1:q∈qs
  ·simp[h1]
  ·by_cases h2:p=q
   ·subst h2;simp
   ·simp[h1,h2,Co h2]
theorem ou(H:HR P w0 J h nx w){o:Q}{b N off:Nat}{vs:List V}{us:List Value}{k:T O->AA}(ho:J o=some (b,N))(hv:VRs J vs us)(hk:∀c∈vs,isCell c=true)(e:Hv o off vs h k=.ok r) :
  ∃h' Vs T,k h'=.ok r/\w.heap[b]?=some (.cells ⟨Vs⟩ T (0,0))/\off+us.length<=Vs.length/\HR P w0 J h' nx (w.putObj b (.cells ⟨overwrite Vs off us⟩ T (0,0)))/\Keep nx.nat J h J h':=by
 unfold Hv at e;rw[bV] at e;have hO:=H.obj o b N ho
 split at e
 ·rename_i n t BT B6 T ex BP
  rw[cI] at e;obtain⟨hg,e⟩:=bW e;rw[dT] at e;have hle:=Ah hg;rw[BP] at hO;cases hO with
  |row _ _ _ _ _ _ _ _ Vs hB hw hN hn hf he ha hx hc =>
  have E0:=(Ad.1 hw).1;have hlen:us.length=vs.length:=hv.1.symm;have EG:off+us.length<=Vs.length:=by rw[hlen];omega
  generalize C4:w.putObj b (.cells ⟨overwrite Vs off us⟩ T (0,0))=w';have CZ:w'.heap[b]?=some (.cells ⟨overwrite Vs off us⟩ T (0,0)):=by rw[<-C4];exact World.putObj_heap_same E0
  have D1:∀Lo Lj,(∀a∈Lo,J a≠none)->Lj<=n->OR P J w' w0.heap.size (.row n (dP vs off t) Lo Lj T ex) b N:=λLo Lj I9 OA=>by
   refine .row _ _ _ _ _ _ _ _ _ hB CZ (by rw[aN _ _ _ EG];exact hN) hn OA he I9 (λi u hi hu=>?_) λi hi=>?_
   ·rw[aR _ _ _ _ EG] at hu
    rw[jF];by_cases g1:i<off
    ·rw[Bo g1] at hu
     rw[Ax (by omega)];exact hx i u hi hu
    ·rw[Ax g1] at hu
     by_cases g2:i<off+us.length
     ·rw[Bo g2] at hu
      have AR:i-off<vs.length:=by omega
      rw[Bo ⟨by omega,by omega⟩];refine hv.2 (i-off) _ u ?_ hu;simp[Br,AR]
     ·rw[Ax g2] at hu
      rw[Ax (by omega)];exact hx i u hi hu
   ·rw[jF]
    split
    ·rename_i Sd
     have AR:i-off<vs.length:=by omega
     refine hk _ ?_;simp[Br,AR]
    ·exact hc i hi
  have C6:∀q N' n' t',J q=some (b,N')->h.ob q=.ro n' t'->n'<=off->OR P J w' w0.heap.size (.ro n' t') b N':=λq N' n' t' hq V6 hno=>by
   have:=H.obj q b N' hq
   rw[V6] at this;cases this with
   |ro _ _ _ _ ZR T' fz HG LX IU EO =>
   rw[hw] at HG;simp at HG;obtain⟨rfl,rfl,rfl⟩:=HG;refine .ro _ _ _ _ _ T _ CZ (by rw[aN _ _ _ EG];exact LX) (λi u hi hu=>?_) EO;rw[aR _ _ _ _ EG,Bo (by omega)] at hu;exact IU i u hi hu
  split at e
  ·rename_i JI
   have JI:=Ah JI;rw[cM] at e;refine⟨_,Vs,T,e,hw,EG,?_,.of λq hq=>by rw[cB,Ax (λe=>by subst e;rw[ho] at hq;cases hq)]⟩;rw[<-C4] at D1 C6;rw[C4];rw[<-C4];refine H.upd ho hB (by rw[cB,Bo rfl];exact D1 BT B6 ha hf) (λq hq=>.inl (by rw[cB,Ax (Co hq)])) λq N' hq GY=>?_
   have hs:=H.sep o q b N N' (Co hq) ho GY;rw[BP] at hs;rw[cB,Ax (Co hq),cB,Bo rfl];rcases hs with hs|⟨n',t',hs,I0,MG⟩
   ·rw[hs];exact⟨.dead _ _,Sh.dead _ _,rfl⟩
   ·rw[hs];exact⟨C6 q N' n' t' GY hs (by omega),.inr ⟨n',t',rfl,I0,MG⟩,rfl⟩
  ·rw[sn,cM] at e
   refine⟨_,Vs,T,e,hw,EG,?_,.of λq hq=>by
    rw[cB,Ax (λe=>by subst e;rw[ho] at hq;cases hq),rV,Ax (λhm=>ha q hm hq)]⟩
   rw[<-C4] at D1 C6;rw[C4];rw[<-C4];refine H.upd ho hB (by rw[cB,Bo rfl];exact D1 [] 0 (λa ha=>by cases ha) (En _)) (λq hq=>?_) λq N' hq GY=>?_
   ·rw[cB,Ax (Co hq),rV]
    split
    ·exact .inr rfl
    ·exact .inl rfl
   ·have hs:=H.sep o q b N N' (Co hq) ho GY
    rw[BP] at hs
    have hd:((yV BT h).put .dead (.row n (dP vs off t) [] 0 T ex) o).ob q=.dead:=by
     rw[cB,Ax (Co hq),rV];rcases hs with hs|⟨n',t',hs,I0,MG⟩
     ·rw[hs];simp
     ·rw[Bo I0]
    rw[hd];exact⟨.dead _ _,Sh.dead _ _,rfl⟩
 ·cases e
def WG(P:Program)(w0 w:World)(J:Rho)(tmps:Array Value)(ds:List Deferred)(o:Oper)(h:T O)(nx:Q)(v:V)(h':T O)(nx':Q):Prop :=
 ∃w' J' u,((execOp (ev tmps ds) o).run P w=.ok (.value u) w'\/((execOp (ev tmps ds) o).run P w=.ok .skip w'/\u=Go.undef))/\VR J' v u/\HR P w0 J' h' nx' w'/\Keep nx.nat J h J' h'/\nx.nat<=nx'.nat
section
variable {dst:Option Nat}{ty:TypeId}{pos:String}{AH:Array Edge}{A8:Option (Nat×Bool)}{k:V->T O->Q->AA}
theorem aS1(H:HR P w0 J h nx w){t:TypeId}{a x:Operand}{n:Nat}(hs:bA P t=some n)(hT:XR J tm tmps (Op.operands (.store t a x)).toList)(e:wK (.st n (aE P a) (aE P x)) tm h nx k=.ok r) :
  ∃v h' nx',k v h' nx'=.ok r/\WG P w0 w J tmps ds ⟨dst,.store t a x,ty,pos,AH,A8⟩ h nx v h' nx':=by
 simp only[wK] at e;obtain⟨c,e1,hc⟩:=opd (ds:=ds) (o:=⟨dst,.store t a x,ty,pos,AH,A8⟩) H hT (by simp[Op.operands]) e;obtain⟨o,off,ho,e2⟩:=l7 e1;subst ho;obtain⟨d,e3,hd⟩:=opd (ds:=ds) (o:=⟨dst,.store t a x,ty,pos,AH,A8⟩) H hT (by simp[Op.operands]) e2;obtain⟨l,hl,e4⟩:=tC e3;rw[cI] at e4;obtain⟨hg,e5⟩:=bW e4;obtain⟨b,N,hv,hb⟩:=hc.inv_ptr;obtain⟨g1,g2,g3⟩:=hd.cells hl;obtain⟨h',Vs,T,f1,f2,f3,f4,f5⟩:=ou H hb g1 g2 e5;refine⟨_,_,_,f1,_,J,_,.inr ⟨?_,rfl⟩,VR.undef,f4,f5,Ae _⟩
 have BG:(ev tmps ds x).cells.size=n:=by
  have:=g1.1
  rw[Aa hg] at this;simpa using this.symm
 have:=fQ (P:=P) (t:=t) (o:=off) (v:=ev tmps ds x) (by rw[BG];exact hs) f2 g3 (by simpa using f3)
 simp[execOp,hv,Instr.storeAt,Instr.sureAddr,this]
theorem HR.putMap(H:HR P w0 J h nx w){o:Q}{b N:Nat}{x x':O}{y:Obj}(ho:J o=some (b,N))(hx:h.ob o=x)(he:R7 x=true)(hr:∀n t BT B6 T ex,x≠.row n t BT B6 T ex)(HV:R7 x'=true)(V5:∀n t BT B6 T ex,x'≠.row n t BT B6 T ex)
  (hB:w0.heap.size<=b) (hn:OR P J (w.putObj b y) w0.heap.size x' b N):HR P w0 J (h.put .dead x' o) nx (w.putObj b y)/\Keep nx.nat J h J (h.put .dead x' o):=by
 refine⟨H.upd ho hB (by rw[cB,Bo rfl];exact hn) (λq hq=>.inl (by rw[cB,Ax (Co hq)])) λq N' hq GY=>?_,.of λq hq=>by rw[cB,Ax (λe=>by subst e;rw[ho] at hq;cases hq)]⟩;have hs:=H.sep o q b N N' (Co hq) ho GY;rw[hx] at hs
 have hd:h.ob q=.dead:=by
  cases x<;>first|exact hs|exact absurd rfl (hr _ _ _ _ _ _)|cases he
 rw[cB,Ax (Co hq),hd];exact⟨.dead _ _,Sh.dead _ _,rfl⟩
theorem pI(H:HR P w0 J h nx w){s:KK}{t:TypeId}{x z:V}{f:V->V}{ux:Value}(hk:KT P s t)(hx:VR J x ux) :
  ∀{es:List (V×V)}{AD:List MapEntry}{i:Nat}{k:List (V×V)->Nat->V->AA},MR J es AD->mP s h x f z es i k=.ok r ->
  (∃es',k es' (i+es.length) z=.ok r/\es'=es++[(x,f z)]/\(Instr.findAsking t ux AD i).run P w=.ok none w/\∀d r',P.underlying t=some d->Instr.findNow d ux AD i=some r'->r'=none) \/
   ∃es' j c e',k es' (i+j) c=.ok r/\AD[j]?=some e'/\VR J c e'.val/\es'=es.set j (x,f c)/\(Instr.findAsking t ux AD i).run P w=.ok (some (i+j,e'.val)) w /\
    (∀d r',P.underlying t=some d->Instr.findNow d ux AD i=some r'->r'=some (i+j,e'.val))/\Instr.sameBits 10000 e'.key ux=true
 |[],[],i,k,hm,e=>.inl ⟨_,e,rfl,by simp[Instr.findAsking],λd r' _ h=>by simp[Instr.findNow] at h;exact h.symm⟩
 |[],_::_,i,k,hm,e=>by have:=hm.len;simp at this
 |_::_,[],i,k,hm,e=>by have:=hm.len;simp at this
 |(y,v)::es,en::AD,i,k,hm,e=>by
  simp only[mP] at e;obtain⟨b,e,s1,s2,s3⟩:=yT H hk hx (hm.key 0 (y,v) en rfl rfl) e;have LI:MR J es AD:=⟨by have:=hm.len;simpa using this,λi p e h1 h2=>hm.key (i+1) p e (by simpa using h1) (by simpa using h2),λi p e h1 h2=>hm.val (i+1) p e (by simpa using h1) (by simpa using h2)⟩
  cases b with
  |true =>
   refine .inr ⟨_,0,v,en,e,rfl,hm.val 0 (y,v) en rfl rfl,rfl,by simp[Instr.findAsking,s1],λd r' hd h=>?_,s3 rfl⟩;simp only[Instr.findNow] at h
   split at h
   ·simpa using h.symm
   ·rename_i hs;have:=s2 d _ hd hs;cases this
   ·cases h
  |false =>
   simp only at e;rw[aH] at e
   have now:∀d r',P.underlying t=some d->Instr.findNow d ux (en::AD) i=some r'->Instr.findNow d ux AD (i+1)=some r':=λd r' hd h=>by
    simp only[Instr.findNow] at h
    split at h
    ·rename_i hs;have:=s2 d _ hd hs;cases this
    ·exact h
    ·cases h
   rcases pI H hk hx (i:=i+1) LI e with⟨es',f1,f2,f3,f4⟩|⟨es',j,c,e',f1,f2,f3,f4,f5,f6,f7⟩
   ·refine .inl ⟨(y,v)::es',?_,by rw[f2];rfl,by simp[Instr.findAsking,s1,f3],λd r' hd h=>f4 d r' hd (now d r' hd h)⟩
    rw[Ay,show i+(es.length+1)=i+1+es.length by omega];exact f1
   ·refine .inr ⟨(y,v)::es',j+1,c,e',?_,by simpa using f2,f3,by rw[f4];rfl,?_,λd r' hd h=>?_,f7⟩
    ·rw[show i+(j+1)=i+1+j by omega];exact f1
    ·rw[show i+(j+1)=i+1+j by omega];simp[Instr.findAsking,s1,f5]
    ·rw[show i+(j+1)=i+1+j by omega];exact f6 d r' hd (now d r' hd h)
theorem sI{a b:Value}(h:Instr.sameBits 10000 a b=true):(Instr.keyThatStays a b).run P w=.ok b w:=by simp[Instr.keyThatStays,h]
theorem MR.push{es:List (V×V)}{AD:List MapEntry}{x z:V}{g:MapEntry}(h:MR J es AD)(hx:VR J x g.key)(hz:VR J z g.val):MR J (es++[(x,z)]) (AD++[g]):=by
 have hl:=h.len
 have both:∀(i:Nat) p e,(es++[(x,z)])[i]?=some p->(AD++[g])[i]?=some e->VR J p.1 e.key/\VR J p.2 e.val:=λi p e hp he=>by
  rw[Cf] at hp he;by_cases hi:i<es.length
  ·rw[Bo hi] at hp
   rw[Bo (by omega)] at he;exact⟨h.key i p e hp he,h.val i p e hp he⟩
  ·rw[Ax hi] at hp
   rw[Ax (by omega)] at he;have h2:i-es.length<1:=by have:=(Ab.1 hp).1;simpa using this
   rw[show i-es.length=0 by omega] at hp;rw[show i-AD.length=0 by omega] at he;simp at hp he;subst hp;subst he;exact⟨hx,hz⟩
 exact⟨by simp[hl],λi p e hp he=>(both i p e hp he).1,λi p e hp he=>(both i p e hp he).2⟩
theorem MR.set{es:List (V×V)}{AD:List MapEntry}{p:V×V}{g:MapEntry}{j:Nat}(h:MR J es AD)(hx:VR J p.1 g.key)(hz:VR J p.2 g.val):MR J (es.set j p) (AD.set j g):=by
 refine⟨by simp[h.len],λi q e hq he=>?_,λi q e hq he=>?_⟩
 all_goals
  by_cases HS:j=i
  ·subst HS
   rw[List.getElem?_set_self' ] at *
   simp_all
   try grind
  ·rw[Ek HS] at *
   first|exact h.key i q e hq he|exact h.val i q e hq he
theorem Born.push{AD:List MapEntry}{cl:Nat}(h:Born AD cl)(a b:Value):Born (AD++[⟨a,b,cl⟩]) (cl+1):=by
 refine⟨by simp[h.1],λi e he=>?_⟩;rw[Cf] at he
 split at he
 ·exact h.2 i e he
 ·have h2:i-AD.length<1:=by have:=(Ab.1 he).1;simpa using this
  rw[show i-AD.length=0 by omega] at he;simp at he;subst he
  have:=h.1
  simp only;omega
theorem Born.set{AD:List MapEntry}{cl j:Nat}{e g:MapEntry}(h:Born AD cl)(hj:AD[j]?=some e)(hb:g.born=e.born):Born (AD.set j g) cl:=by
 refine⟨by simpa using h.1,λi x hx=>?_⟩;by_cases HS:j=i
 ·subst HS
  have AR:=(Ab.1 hj).1;rw[Hh AR] at hx;simp at hx;subst hx;rw[hb];exact h.2 j e hj
 ·rw[Ek HS] at hx
  exact h.2 i x hx
end
end
end Go.CM
end
