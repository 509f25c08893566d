import Derived.Test.YtoiocfngjchdiaaGreatDoorC02
import Derived.Laws.StructEq
import Derived.Lib.Builder
import Derived.Lib.UnsafeStr
set_option linter.all false
noncomputable section
namespace Go.CM
section
open Go.AM (oneC overwrite run_underlying run_sizeOf dA aU aP aM aC aO AD bO cE bytes_beq run_getObj run_setObj)
variable {P:Program}{w0:Base}{w:World}{J:Rho}{h:T O}{nx:Q}{tm:T V}{tmps:Array Value}{ds:List Deferred}{k:V->Res}{r v:V}
variable {dst:Option Nat}{ty:TypeId}{pos:String}{AJ:Array Edge}{BE:Option (Nat×Bool)}
theorem aS2(H:HR P w0 J h nx w){t:TypeId}{x:Operand}{d:TypeDesc}(hu:P.underlying t=some d)(hd:∀m,d≠.interface m)(hT:XR J tm tmps (Op.operands (.makeInterface t x)).toList)(e:pK (.mki t (aE P x)) tm h k=.ok r) :
  ∃v,k v=.ok r/\PG P w J tmps ds ⟨dst,.makeInterface t x,ty,pos,AJ,BE⟩ v:=by
 simp only[pK] at e;obtain⟨c,e1,hc⟩:=opd (ds:=ds) (o:=⟨dst,.makeInterface t x,ty,pos,AJ,BE⟩) H hT (by simp[Op.operands]) e;refine⟨_,e1,.iface t (ev tmps ds x),?_,.ifc _ _ _ hc⟩;simp only[execOp,Instr.makeInterface,Sem.run_bind,run_underlying hu,Result.andThen_ok];cases d<;>first|rfl|exact absurd rfl (hd _)
theorem aS1(H:HR P w0 J h nx w){f:Nat}{first caps:Array Operand}(hT:XR J tm tmps (Op.operands (.makeFunc (.func f) first caps)).toList)(e:pK (.mkf (qn f) (first.toList.map (aE P)) (caps.toList.map (aE P))) tm h k=.ok r) :
  ∃v,k v=.ok r/\PG P w J tmps ds ⟨dst,.makeFunc (.func f) first caps,ty,pos,AJ,BE⟩ v:=by
 simp only[pK] at e;obtain⟨l,h1,e1⟩:=rZ e;obtain⟨m,h2,e2⟩:=rZ e1;have hl:=nP (ds:=ds) H.glob (hT.sub (λy hy=>by simp[Op.operands];exact .inl (by simpa using hy))) h1;have hm:=nP (ds:=ds) H.glob (hT.sub (λy hy=>by simp[Op.operands];exact .inr (by simpa using hy))) h2;have hv:=VR.fn (J:=J) (qn f) l m _ _ hl.1 hm.1 hl.2 hm.2;rw[dX] at hv;refine⟨_,e2,_,?_,hv⟩;have a1:first.map (ev tmps ds)=⟨first.toList.map (ev tmps ds)⟩:=by apply Cp;simp
 have a2:caps.map (ev tmps ds)=⟨caps.toList.map (ev tmps ds)⟩:=by apply Cp;simp
 simp[execOp,Instr.makeFunc,a1,a2]
theorem VR.inv_nilm{u:Value}(h:VR J .nilm u):u=.map none:=by cases h;rfl
def KT(P:Program)(s:KK)(t:TypeId):Prop :=
 match s with
 |.str=>P.underlying t=some .string
 |.int=>∃kd,P.underlying t=some (.int kd)
 |.ptr=>∃e j,P.underlying t=some (.pointer e)/\P.info? e=some j/\j.size≠0
 |.st l=>∃fs,P.underlying t=some (.struct fs)/\j8 P fs.toList 0=some l/\P.stoodInHeld t=false
theorem wc{t e:TypeId}{s:KK}(hm:px P t=some (s,e)):∃kt,P.underlying t=some (.map kt e)/\KT P s kt:=by
 unfold px at hm
 split at hm
 ·rename_i kt e' hu
  split at hm
  ·simp at hm;obtain⟨rfl,rfl⟩:=hm
   exact⟨kt,hu,by assumption⟩
  ·simp at hm;obtain⟨rfl,rfl⟩:=hm
   exact⟨kt,hu,_,by assumption⟩
  ·rename_i p hp
   split at hm
   ·rename_i sz hs
    split at hm
    ·rename_i h0
     simp at hm;obtain⟨rfl,rfl⟩:=hm;obtain⟨j,hj,MU⟩:=mF hs;exact⟨kt,hu,p,j,hp,hj,by have:=dM h0;omega⟩
    ·cases hm
   ·cases hm
  ·rename_i fs hfs
   split at hm
   ·cases hm
   ·rename_i hg
    obtain⟨l,hl,hm⟩:=mF hm;simp at hm;obtain⟨rfl,rfl⟩:=hm;exact⟨kt,hu,fs,hfs,hl,hg⟩
  ·cases hm
 ·cases hm
theorem KT.desc{s:KK}{t:TypeId}(hk:KT P s t):∃d,P.underlying t=some d:=by
 cases s with
 |str=>exact⟨_,hk⟩
 |int=>exact⟨_,hk.choose_spec⟩
 |ptr=>obtain⟨e,j,h,_⟩:=hk;exact⟨_,h⟩
 |st n=>obtain⟨fs,h,_⟩:=hk;exact⟨_,h⟩
theorem rU{t:TypeId}{vs:List Value}{off:Nat}{u:Value}(ha:aM P t=some false)(hu:vs[off]?=some u):(part t ⟨vs⟩ off).run P w=.ok u w:=by
 have hi:off<vs.length:=(Ab.1 hu).1;have he:vs[off]=u:=(Ab.1 hu).2;simp[part,dA ha,hi,he]
def FT(P:Program)(f:FK)(t:TypeId):Prop :=
 match f with
 |.b=>P.underlying t=some .bool
 |.s=>P.underlying t=some .string
 |.i=>∃kd,P.underlying t=some (.int kd)
theorem FT.flat{f:FK}{t:TypeId}(h:FT P f t):aM P t=some false:=by
 unfold aM;cases f with
 |b=>rw[show P.underlying t=_ from h]
 |s=>rw[show P.underlying t=_ from h]
 |i=>obtain⟨kd,h⟩:=h;rw[h]
theorem oJ{f:Field}{fs:List Field}{i:Nat}{l:List FK}(h:j8 P (f::fs) i=some l):∃x l',l=x::l'/\f.offset=i/\f.name≠ "_"/\j8 P fs (i+1)=some l'/\FT P x f.type:=by
 simp only[j8] at h
 split at h
 ·rename_i hg
  rw[Ac] at hg
  split at h<;>first|(obtain⟨l',h1,rfl⟩:=mF h;exact⟨_,l',rfl,Aa hg.1,by simpa using hg.2,h1,by first|assumption|exact⟨_,by assumption⟩⟩)|cases h
 ·cases h
theorem y4{f:FK}{t:TypeId}{x y:V}{ux uy:Value}{k:Bool->Res}(ht:FT P f t)(hx:VR J x ux)(hy:VR J y uy)(e:fT f x y k=.ok r) :
  ∃b,k b=.ok r/\(∀n,(Op.equalIn (n+1) t ux uy).run P w=.ok b w)/\(b=true->∀n,Instr.sameBits n uy ux=true):=by
 cases f with
 |b =>
  have hu:P.underlying t=some .bool:=ht;simp only[fT] at e;cases x<;>simp only at e<;>first|cases e|skip
  cases y<;>simp only at e<;>first|cases e|skip
  rename_i p q;rw[hx.inv_bool,hy.inv_bool];exact⟨_,e,λn=>by simp[Op.equalIn,run_underlying hu],λhb n=>by simp at hb;subst hb;cases n<;>simp[Instr.sameBits]⟩
 |s =>
  have hu:P.underlying t=some .string:=ht;simp only[fT] at e;cases x<;>simp only at e<;>first|cases e|skip
  cases y<;>simp only at e<;>first|cases e|skip
  obtain⟨p,rfl,rfl,rfl⟩:=hx.inv_str;obtain⟨q,rfl,rfl,rfl⟩:=hy.inv_str;rw[qp] at e;refine⟨_,e,λn=>by simp[Op.equalIn,run_underlying hu,bytes_beq],λhb n=>?_⟩;simp at hb;subst hb
  have:((⟨⟨p⟩⟩:ByteArray)==⟨⟨p⟩⟩)=true:=by rw[bytes_beq];simp
  cases n<;>exact this
 |i =>
  obtain⟨kd,hu⟩:=ht;simp only[fT] at e;cases x<;>simp only at e<;>first|cases e|skip
  cases y<;>simp only at e<;>first|cases e|skip
  obtain⟨hg,e1⟩:=bP e;clear e;have IB:=tN hg;subst IB;have e:=e1;clear e1;rw[rD] at e;rw[hx.inv_int,hy.inv_int];exact⟨_,e,λn=>by simp[Op.equalIn,run_underlying hu],λhb n=>by simp at hb;subst hb;cases n<;>simp[Instr.sameBits]⟩
theorem u6:∀{fs:List Field}{l:List FK}{i:Nat}{xs ys:List V}{us vs:List Value}{k:Bool->Res},j8 P fs i=some l->VRs J xs (us.drop i)->VRs J ys (vs.drop i)->fC l xs ys k=.ok r ->
  ∃b,k b=.ok r/\(∀n,(Op.eqFields (n+1) ⟨us⟩ ⟨vs⟩ fs).run P w=.ok b w)/\(b=true->(us.drop i).length=(vs.drop i).length/\∀n,((vs.drop i).zip (us.drop i)).all (λ(x,y)=>Instr.sameBits n x y)=true)
 |[],l,i,xs,ys,us,vs,k,hf,hx,hy,e=>by
  simp[j8] at hf;subst hf;cases xs<;>cases ys<;>simp only[fC] at e<;>first|cases e|skip
  rw[hx.inv_nil,hy.inv_nil];exact⟨true,e,λn=>by simp[Op.eqFields],λ_=>⟨rfl,λn=>rfl⟩⟩
 |f::fs,l,i,xs,ys,us,vs,k,hf,hx,hy,e=>by
  obtain⟨x,l',rfl,ho,hn,NC,ht⟩:=oJ hf;cases xs<;>cases ys<;>simp only[fC] at e<;>first|cases e|skip
  rename_i c cs d dd;obtain⟨u,Qc,hu,hcu,CK⟩:=hx.inv_cons;obtain⟨v,CE,hv,hdv,Td⟩:=hy.inv_cons;obtain⟨b,e1,h1,h2⟩:=y4 (w:=w) ht hcu hdv e
  have gu:us[i]?=some u:=by have:(us.drop i)[0]?=some u:=by rw[hu];rfl
                            simpa using this
  have gv:vs[i]?=some v:=by have:(vs.drop i)[0]?=some v:=by rw[hv];rfl
                            simpa using this
  have pu:=rU (P:=P) (w:=w) (t:=f.type) ht.flat gu;have pv:=rU (P:=P) (w:=w) (t:=f.type) ht.flat gv;have du:us.drop (i+1)=Qc:=by rw[<-List.drop_drop,hu];rfl
  have dv:vs.drop (i+1)=CE:=by rw[<-List.drop_drop,hv];rfl
  cases b with
  |false =>
   exact⟨false,e1,λn=>by simp[Op.eqFields,hn,ho,pu,pv,h1],λh=>by cases h⟩
  |true =>
   obtain⟨b',g1,g2,g3⟩:=u6 (us:=us) (vs:=vs) NC (by rw[du];exact CK) (by rw[dv];exact Td) e1;refine⟨b',g1,λn=>by simp[Op.eqFields,hn,ho,pu,pv,h1,g2],λhb=>?_⟩;obtain⟨g4,g5⟩:=g3 hb;rw[du,dv] at g4 g5;rw[hu,hv];exact⟨by simp[g4],λn=>by simp only[List.zip_cons_cons,Gb,h2 rfl n,Bool.true_and];exact g5 n⟩
theorem lK{t:TypeId}{fs:Array Field}(h:P.underlying t=some (.struct fs)):P.fieldsOf t=fs:=by simp[Program.fieldsOf,h]
theorem jb(H:HR P w0 J h nx w){s:KK}{t:TypeId}{x y:V}{ux uy:Value}{k:Bool->Res}(hk:KT P s t)(hx:VR J x ux)(hy:VR J y uy)(e:gC s h x y k=.ok r) :
  ∃b,k b=.ok r/\(Op.equal t ux uy).run P w=.ok b w/\(∀d b',P.underlying t=some d->Instr.sameNow d ux uy=some b'->b'=b)/\(b=true->Instr.sameBits 10000 uy ux=true):=by
 cases s with
 |str =>
  obtain⟨b,e1,h1,h2⟩:=y4 (P:=P) (w:=w) (f:=.s) (t:=t) hk hx hy (by simpa[gC,fT] using(by
   simp only[gC] at e;cases x<;>simp only at e<;>first|cases e|skip
   cases y<;>simp only at e<;>first|cases e|skip
   simpa only[fT] using e))
  refine⟨b,e1,bO hk h1,λd b' hd hs=>?_,λhb=>h2 hb 10000⟩;have hu:P.underlying t=some .string:=hk;rw[hu] at hd;obtain rfl:=Bp hd;have h3:=h1 0;simp only[gC] at e;cases x<;>simp only at e<;>first|cases e|skip
  cases y<;>simp only at e<;>first|cases e|skip
  obtain⟨p,rfl,rfl,rfl⟩:=hx.inv_str;obtain⟨q,rfl,rfl,rfl⟩:=hy.inv_str;simp[Op.equalIn,run_underlying hu] at h3;simp[Instr.sameNow] at hs;rw[<-h3,<-hs]
 |int =>
  obtain⟨kd,hu⟩:=hk;simp only[gC] at e;cases x<;>simp only at e<;>first|cases e|skip
  cases y<;>simp only at e<;>first|cases e|skip
  obtain⟨hg,e1⟩:=bP e;clear e;have IB:=tN hg;subst IB;have e:=e1;clear e1;rw[rD] at e;rw[hx.inv_int,hy.inv_int];refine⟨_,e,bO hu λn=>by simp[Op.equalIn,run_underlying hu],λd b' hd hs=>?_,λhb=>by simp at hb;subst hb;simp[Instr.sameBits]⟩;rw[hu] at hd;obtain rfl:=Bp hd;simp[Instr.sameNow] at hs;exact hs.symm
 |ptr =>
  obtain⟨el,j,hu,hi,hs⟩:=hk;simp only[gC] at e;cases x<;>simp only at e<;>first|cases e|skip
  cases y<;>simp only at e<;>first|cases e|skip
  obtain⟨b1,N1,rfl,h1⟩:=hx.inv_ptr;obtain⟨b2,N2,rfl,h2⟩:=hy.inv_ptr;obtain⟨z,e,Iv,IQ⟩:=aCh H h1 h2 e;refine⟨z,e,?_,λd b' hd hs=>?_,λhb=>?_⟩
  ·cases z with
   |true =>
    obtain⟨rfl,rfl⟩:=Iv rfl;exact bO hu λn=>by simp[Op.equalIn,run_underlying hu,sizeOf,typeInfo,hi,run_sameAddr_same]
   |false =>
    obtain⟨g1,⟨ca,ta,g2⟩,cb,tb,g3⟩:=IQ rfl;exact bO hu λn=>by simp[Op.equalIn,run_underlying hu,sizeOf,typeInfo,hi,hs,run_sameAddr_other w g1 g2 g3]
  ·rw[hu] at hd;obtain rfl:=Bp hd
   simp[Instr.sameNow] at hs
  ·obtain⟨rfl,rfl⟩:=Iv hb
   simp[Instr.sameBits]
 |st l =>
  obtain⟨fs,hu,hf,A7⟩:=hk;simp only[gC] at e;cases x<;>simp only at e<;>first|cases e|skip
  cases y<;>simp only at e<;>first|cases e|skip
  obtain⟨us,rfl,OU,_⟩:=hx.inv_agg;obtain⟨vs,rfl,GY,_⟩:=hy.inv_agg;obtain⟨b,e,h1,h2⟩:=u6 (P:=P) (w:=w) (us:=us) (vs:=vs) hf (by simpa using OU) (by simpa using GY) e;refine⟨b,e,?_,λd b' hd hs=>?_,λhb=>?_⟩
  ·show(Op.equalIn (9998+1+1) t (.agg ⟨us⟩) (.agg ⟨vs⟩)).run P w=_
   rw[run_equalIn_struct w (9998+1) t _ _ (by rw[lK hu];exact hu) A7,lK hu];exact h1 9998
  ·rw[hu] at hd;obtain rfl:=Bp hd
   simp[Instr.sameNow] at hs
  ·obtain⟨g1,g2⟩:=h2 hb
   simp only[Fx] at g1 g2;show(vs.length==us.length&&_)=true;simp only[Ac,Bx];exact⟨g1.symm,g2 9999⟩
theorem vE(H:HR P w0 J h nx w){s:KK}{t:TypeId}{x:V}{ux:Value}(hk:KT P s t)(hx:VR J x ux):∀{es:List (V×V)}{AK:List MapEntry}{i:Nat}{k:V->Res}{kn:Res},MR J es AK->j6 s h x es k kn=.ok r ->
  (kn=.ok r/\(Instr.findAsking t ux AK i).run P w=.ok none w/\∀d r',P.underlying t=some d->Instr.findNow d ux AK i=some r'->r'=none) \/
   ∃c u j,k c=.ok r/\VR J c u/\(Instr.findAsking t ux AK i).run P w=.ok (some (i+j,u)) w/\∀d r',P.underlying t=some d->Instr.findNow d ux AK i=some r'->r'=some (i+j,u)
 |[],[],i,k,kn,hm,e=>.inl ⟨e,by simp[Instr.findAsking],λd r' _ h=>by simp[Instr.findNow] at h;exact h.symm⟩
 |[],_::_,i,k,kn,hm,e=>by have:=hm.len;simp at this
 |_::_,[],i,k,kn,hm,e=>by have:=hm.len;simp at this
 |(y,v)::es,en::AK,i,k,kn,hm,e=>by
  simp only[j6] at e;obtain⟨b,e,s1,s2,_⟩:=jb H hk hx (hm.key 0 (y,v) en rfl rfl) e;have Sp:MR J es AK:=⟨by have:=hm.len;simpa using this,λi p e h1 h2=>hm.key (i+1) p e (by simpa using h1) (by simpa using h2),λi p e h1 h2=>hm.val (i+1) p e (by simpa using h1) (by simpa using h2)⟩
  cases b with
  |true =>
   refine .inr ⟨v,en.val,0,e,hm.val 0 (y,v) en rfl rfl,by simp[Instr.findAsking,s1],λd r' hd h=>?_⟩;simp only[Instr.findNow] at h
   split at h
   ·simpa using h.symm
   ·rename_i hs;have:=s2 d _ hd hs;cases this
   ·cases h
  |false =>
   have now:∀d r',P.underlying t=some d->Instr.findNow d ux (en::AK) i=some r'->Instr.findNow d ux AK (i+1)=some r':=λd r' hd h=>by
    simp only[Instr.findNow] at h
    split at h
    ·rename_i hs;have:=s2 d _ hd hs;cases this
    ·exact h
    ·cases h
   rcases vE H hk hx (i:=i+1) Sp e with⟨f1,f2,f3⟩|⟨c,u,j,f1,f2,f3,f4⟩
   ·exact .inl ⟨f1,by simp[Instr.findAsking,s1,f2],λd r' hd h=>f3 d r' hd (now d r' hd h)⟩
   ·exact .inr ⟨c,u,j+1,f1,f2,by rw[show i+(j+1)=i+1+j by omega];simp[Instr.findAsking,s1,f3],λd r' hd h=>by rw[show i+(j+1)=i+1+j by omega];exact f4 d r' hd (now d r' hd h)⟩
theorem run_findKey{t:TypeId}{d:TypeDesc}{ux:Value}{AK:List MapEntry}{o:Option (Nat×Value)}(hd:P.underlying t=some d)(h1:(Instr.findAsking t ux AK 0).run P w=.ok o w)(h2:∀d r',P.underlying t=some d->Instr.findNow d ux AK 0=some r'->r'=o) :
  (Instr.findKey t ux AK).run P w=.ok o w:=by
 simp only[Instr.findKey,Sem.run_bind,run_underlying hd,Result.andThen_ok];split
 ·rename_i r' hr;rw[h2 d r' hd hr];rfl
 ·exact h1
def KF(s:KK)(x:V):Prop:=∀l,s=.st l->∃cs,x=.agg cs/\cs.length=l.length
theorem ja{s:KK}{x:V}{k:Res}(e:iW s x k=.ok r):k=.ok r/\KF s x:=by
 cases s with
 |st l =>
  cases x<;>simp only[iW] at e<;>first|cases e|skip
  rw[cJ,cJ] at e;obtain⟨hg,e⟩:=bP e;exact⟨e,λl' hl=>by cases hl;exact⟨_,rfl,Aa hg⟩⟩
 |_=>exact⟨e,λl hl=>by cases hl⟩
theorem y6:∀{fs:List Field}{i:Nat}{l:List FK},j8 P fs i=some l->l.length=fs.length
 |[],i,l,h=>by simp[j8] at h;subst h;rfl
 |f::fs,i,l,h=>by
  obtain⟨x,l',rfl,_,_,h1,_⟩:=oJ h;simp[y6 h1]
theorem run_checkKey{s:KK}{t:TypeId}(hk:KT P s t){x:V}{u:Value}(hx:VR J x u)(hs:KF s x)(b:Bool)(n:Nat):(Instr.checkKey b (n+2) t u).run P w=.ok () w:=by
 cases s with
 |str=>have hd:P.underlying t=some .string:=hk;simp[Instr.checkKey,run_underlying hd]
 |int=>obtain⟨kd,hd⟩:=hk;simp[Instr.checkKey,run_underlying hd]
 |ptr=>obtain⟨e,j,hd,_⟩:=hk;simp[Instr.checkKey,run_underlying hd]
 |st l =>
  obtain⟨fs,hd,hf,_⟩:=hk;obtain⟨cs,rfl,hl⟩:=hs l rfl;obtain⟨vs,rfl,GY,_⟩:=hx.inv_agg;have hlen:vs.length=fs.toList.length:=by rw[<-GY.1,hl,y6 hf]
  have one:∀(f:Field)(i:Nat) x,FT P x f.type->i<vs.length->f.offset=i->∃u,(part f.type ⟨vs⟩ f.offset).run P w=.ok u w/\(Instr.checkKey b (n+1) f.type u).run P w=.ok () w:=λf i x NB hi ho=>by
   subst ho;refine⟨vs[f.offset],rU NB.flat (by simp[hi]),?_⟩;cases x with
   |b=>have hd:P.underlying f.type=some .bool:=NB;simp[Instr.checkKey,run_underlying hd]
   |s=>have hd:P.underlying f.type=some .string:=NB;simp[Instr.checkKey,run_underlying hd]
   |i=>obtain⟨kd,hd⟩:=NB;simp[Instr.checkKey,run_underlying hd]
  obtain⟨m,hm⟩:∃m,m=n+1:=⟨_,rfl⟩
  rw[show n+2=m+1 by omega];rw[<-hm] at one;simp only[Instr.checkKey,Sem.run_bind,run_underlying hd,Result.andThen_ok];rw[<-Array.forIn_toList]
  have main:∀(gs:List Field)(i:Nat)(l:List FK),j8 P gs i=some l->i+gs.length=vs.length ->
    (forIn gs PUnit.unit λf r=>if f.name≠ "_" then do Instr.checkKey b m f.type (<-part f.type ⟨vs⟩ f.offset);pure (ForInStep.yield PUnit.unit) else pure (ForInStep.yield PUnit.unit):Sem PUnit).run P w=.ok PUnit.unit w:=by
   intro gs;induction gs with
   |nil=>intro i l _ _;simp
   |cons f gs ih =>
    intro i l hf hi;obtain⟨x,l',rfl,ho,hn,NC,NB⟩:=oJ hf;simp only[An] at hi;obtain⟨u,h1,h2⟩:=one f i x NB (by omega) ho;simp only[List.forIn_cons,Bu hn,Sem.run_bind,h1,h2,Result.andThen_ok,Sem.run_pure];exact ih (i+1) l' NC (by omega)
  have:=main fs.toList 0 l hf (by omega)
  simp at this ⊢;simp[this]
theorem HR.map(H:HR P w0 J h nx w){o:Q}{b N:Nat}{es:List (V×V)}(ho:J o=some (b,N))(hm:h.ob o=.map es\/h.ob o=.mapd es):∃(AK:List MapEntry)(cl:Nat),w.heap[b]?=some (.map ⟨AK⟩ cl)/\MR J es AK/\w0.heap.size<=b:=by
 have:=H.obj o b N ho
 rcases hm with hm|hm
 ·rw[hm] at this
  cases this with|map _ AK cl _ _ hb hw hm hc=>exact⟨AK,cl,hw,hm,hb⟩
 ·rw[hm] at this
  cases this with|mapd _ AK cl _ _ hb hw hm=>exact⟨AK,cl,hw,hm,hb⟩
theorem VR.tup2{a b:V}{x y:Value}(h1:VR J a x)(h2:VR J b y):VR J (.tup [a,b]) (.tuple #[x,y]):=by
 have:=VRs.cons h1 (VRs.cons h2 VRs.nil)
 exact .tup _ _ this.1 this.2
theorem aYV(H:HR P w0 J h nx w){t el:TypeId}{s:KK}{ok:Bool}{z:V}{m key:Operand}(ht:px P t=some (s,el))(hz:zeroV P el=some z)(hT:XR J tm tmps (Op.operands (.lookup t m key ok)).toList)(e:pK (.lk s ok z (aE P m) (aE P key)) tm h k=.ok r) :
  ∃v,k v=.ok r/\PG P w J tmps ds ⟨dst,.lookup t m key ok,ty,pos,AJ,BE⟩ v:=by
 simp only[pK] at e;obtain⟨c,e1,hc⟩:=opd (ds:=ds) (o:=⟨dst,.lookup t m key ok,ty,pos,AJ,BE⟩) H hT (by simp[Op.operands]) e;obtain⟨x,e2,hx⟩:=opd (ds:=ds) (o:=⟨dst,.lookup t m key ok,ty,pos,AJ,BE⟩) H hT (by simp[Op.operands]) e1;obtain⟨e2,TN⟩:=ja e2;obtain⟨kt,hu,La⟩:=wc ht;obtain⟨d,hd⟩:=La.desc;obtain⟨zv,Iv,IQ,_⟩:=xW (J:=J) hz;have Ic:=aU (P:=P) (w:=w) Iv;have Hi:=λb=>run_checkKey (w:=w) La hx TN b 9998
 have BA:∀(es:List MapEntry)(o:Option (Nat×Value)),(match ev tmps ds m with
   |.map none=>es=[]
   |.map (some rr)=>∃cl,w.heap[rr]?=some (.map ⟨es⟩ cl)
   |_=>False)->(Instr.findKey kt (ev tmps ds key) es).run P w=.ok o w->(execOp (ev tmps ds) ⟨dst,.lookup t m key ok,ty,pos,AJ,BE⟩).run P w=.ok (.value (if ok then .tuple #[(o.map (·.2)).getD zv,.bool o.isSome] else(o.map (·.2)).getD zv)) w:=λes o D8 hf=>by
  generalize hg:ev tmps ds m=um at D8
  split at D8
  ·subst D8
   simp only[execOp,Instr.lookup,hg,Sem.run_bind,run_underlying hu,Result.andThen_ok];cases o<;>cases ok<;>simp[Hi,hf,Ic]
  ·obtain⟨cl,D8⟩:=D8
   simp only[execOp,Instr.lookup,hg,Sem.run_bind,run_underlying hu,Result.andThen_ok];cases o<;>cases ok<;>simp[run_getObj (P:=P) D8 (by simp),Hi,hf,Ic]
  ·exact D8.elim
 cases c<;>simp only at e2<;>first|cases e2|skip
 ·have hm:=hc.inv_nilm
  have:=BA [] none (by rw[hm]) (run_findKey hd (by simp[Instr.findAsking]) (λd r' _ h=>by simp[Instr.findNow] at h;exact h.symm))
  cases ok with
  |true=>exact⟨_,e2,_,by simpa using this,IQ.tup2 (.bool _)⟩
  |false=>exact⟨_,e2,_,by simpa using this,IQ⟩
 ·rw[bV] at e2
  obtain⟨es,D8,e3⟩:=tZ e2;obtain⟨b,N,hm,hb⟩:=hc.inv_map;obtain⟨AK,cl,g1,g2,_⟩:=H.map hb D8;have IZ:=λo hf=>BA AK o (by rw[hm];exact⟨_,g1⟩) hf
  cases ok with
  |true =>
   rcases vE (i:=0) H La hx g2 e3 with⟨f1,f2,f3⟩|⟨c,u,j,f1,f2,f3,f4⟩
   ·exact⟨_,f1,_,by simpa using IZ _ (run_findKey hd f2 f3),IQ.tup2 (.bool _)⟩
   ·exact⟨_,f1,_,by simpa using IZ _ (run_findKey hd f3 f4),f2.tup2 (.bool _)⟩
  |false =>
   rcases vE (i:=0) H La hx g2 e3 with⟨f1,f2,f3⟩|⟨c,u,j,f1,f2,f3,f4⟩
   ·exact⟨_,f1,_,by simpa using IZ _ (run_findKey hd f2 f3),IQ⟩
   ·exact⟨_,f1,_,by simpa using IZ _ (run_findKey hd f3 f4),f2⟩
theorem Zo(H:HR P w0 J h nx w){x:Operand}{t:TypeId}{b:PB}{a:Array Operand}{ts:Array TypeId}(ha:a.toList=[x])(Jo:ts.toList=[t])(hb:(P.underlying t=some .string/\b=.lenS (aE P x))\/(∃el,P.underlying t=some (.slice el)/\b=.lenL (aE P x))\/(∃kt el,P.underlying t=some (.map kt el)/\b=.lenM (aE P x)))
  (hT:XR J tm tmps (Op.operands (.call ⟨.builtin .len,a,ts⟩)).toList) (e:pK b tm h k=.ok r):∃v,k v=.ok r/\PG P w J tmps ds ⟨dst,.call ⟨.builtin .len,a,ts⟩,ty,pos,AJ,BE⟩ v:=by
 obtain⟨a⟩:=a;obtain⟨ts⟩:=ts;simp only at ha Jo;subst ha;subst Jo
 have hex:∀u,(Builtin.len_ #[t] ty #[ev tmps ds x]).run P w=.ok u w->(execOp (ev tmps ds) ⟨dst,.call ⟨.builtin .len,#[x],#[t]⟩,ty,pos,AJ,BE⟩).run P w=.ok (.value u) w:=λu hu=>by
  simp[execOp,resolve,invoke,builtin];simp[ev] at hu;simp[hu]
 rcases hb with⟨hu,rfl⟩|⟨el,hu,rfl⟩|⟨kt,el,hu,rfl⟩
 ·simp only[pK] at e
  obtain⟨c,e1,hc⟩:=opd (ds:=ds) (o:=⟨dst,.call ⟨.builtin .len,#[x],#[t]⟩,ty,pos,AJ,BE⟩) H hT (by simp[Op.operands,Call.operands]) e;obtain⟨l,n,ho,e2⟩:=qX e1;subst ho;obtain⟨s,hv,hl,hp⟩:=hc.inv_str;refine⟨_,e2,_,hex _ (by simp[Builtin.len_,run_underlying hu,hv,goInt];rfl),?_⟩
  have:(⟨⟨s⟩⟩:ByteArray).size=l:=hl
  rw[this];exact .int _ _
 ·simp only[pK] at e
  obtain⟨c,e1,hc⟩:=opd (ds:=ds) (o:=⟨dst,.call ⟨.builtin .len,#[x],#[t]⟩,ty,pos,AJ,BE⟩) H hT (by simp[Op.operands,Call.operands]) e;obtain⟨a,l,cap,hv,e2,_⟩:=vo hc e1;exact⟨_,e2,.int .i64 l,hex _ (by simp[Builtin.len_,run_underlying hu,hv,goInt]),.int _ _⟩
 ·simp only[pK] at e
  obtain⟨c,e1,hc⟩:=opd (ds:=ds) (o:=⟨dst,.call ⟨.builtin .len,#[x],#[t]⟩,ty,pos,AJ,BE⟩) H hT (by simp[Op.operands,Call.operands]) e;cases c<;>simp only at e1<;>first|cases e1|skip
  ·have hv:ev tmps ds x=.map none:=hc.inv_nilm
   exact⟨_,e1,.int .i64 0,hex _ (by simp[Builtin.len_,run_underlying hu,hv,goInt]),.int _ _⟩
  ·rw[bV] at e1
   obtain⟨es,D8,e2⟩:=tZ e1;rw[cJ] at e2;obtain⟨b,N,hv,hb⟩:=hc.inv_map;obtain⟨AK,cl,g1,g2,_⟩:=H.map hb D8;refine⟨_,e2,.int .i64 AK.length,hex _ (by simp[Builtin.len_,run_underlying hu,hv,run_getObj (P:=P) g1 (by simp),goInt]),?_⟩;rw[g2.len];exact .int _ _
theorem aS0(H:HR P w0 J h nx w){x y:Operand}{a:Array Operand}{ts:Array TypeId}(ha:a.toList=[x,y])(hT:XR J tm tmps (Op.operands (.call ⟨.builtin .max,a,ts⟩)).toList)(e:pK (.max (aE P x) (aE P y)) tm h k=.ok r) :
  ∃v,k v=.ok r/\PG P w J tmps ds ⟨dst,.call ⟨.builtin .max,a,ts⟩,ty,pos,AJ,BE⟩ v:=by
 obtain⟨a⟩:=a;simp only at ha;subst ha;simp only[pK] at e;obtain⟨c,e1,hc⟩:=opd (ds:=ds) (o:=⟨dst,.call ⟨.builtin .max,#[x,y],ts⟩,ty,pos,AJ,BE⟩) H hT (by simp[Op.operands,Call.operands]) e;obtain⟨d,e2,hd⟩:=opd (ds:=ds) (o:=⟨dst,.call ⟨.builtin .max,#[x,y],ts⟩,ty,pos,AJ,BE⟩) H hT (by simp[Op.operands,Call.operands]) e1;obtain⟨ka,n,hn,e3⟩:=mz e2;obtain⟨kb,m,hm,e4⟩:=mz e3;subst hn;subst hm;have h1:=hc.inv_int;have h2:=hd.inv_int;rw[vW] at e4
 have hex:(execOp (ev tmps ds) ⟨dst,.call ⟨.builtin .max,#[x,y],ts⟩,ty,pos,AJ,BE⟩).run P w=.ok (.value (.int ka (if m>n then m else n))) w:=by
  simp[execOp,resolve,invoke,builtin];simp[Builtin.max_,h1,h2,Builtin.max2]
 split at e4
 ·rename_i hb
  simp at hb;rw[Bc (by omega)] at hex;exact⟨_,e4,_,hex,.int _ _⟩
 ·rename_i hb
  simp at hb;rw[Bu (by omega)] at hex;exact⟨_,e4,_,hex,.int _ _⟩
end
section
open Go.AM (oneC overwrite run_underlying run_sizeOf dA aU aP aM aC aO AD bO cE bytes_beq run_getObj run_setObj)
variable {P:Program}{w0:Base}{w:World}{J:Rho}{h:T O}{nx:Q}{tm:T V}{tmps:Array Value}{ds:List Deferred}{k:V->Res}{r v:V}
section more
variable {dst:Option Nat}{ty:TypeId}{pos:String}{AJ:Array Edge}{BE:Option (Nat×Bool)}
theorem aYW(H:HR P w0 J h nx w){t xt:TypeId}{HK:Bool}{z:V}{x:Operand}{d:TypeDesc}(hu:P.underlying t=some d)(Mz:∀ms,d≠.interface ms)(hz:zeroV P t=some z)(hT:XR J tm tmps (Op.operands (.typeAssert x xt t HK)).toList)
  (e:pK (.ta HK t z (aE P x)) tm h k=.ok r):∃v,k v=.ok r/\PG P w J tmps ds ⟨dst,.typeAssert x xt t HK,ty,pos,AJ,BE⟩ v:=by
 simp only[pK] at e;obtain⟨c,e1,hc⟩:=opd (ds:=ds) (o:=⟨dst,.typeAssert x xt t HK,ty,pos,AJ,BE⟩) H hT (by simp[Op.operands]) e;obtain⟨zv,Iv,IQ,_⟩:=xW (J:=J) hz;have Ic:=aU (P:=P) (w:=w) Iv;generalize hg:ev tmps ds x=u at hc
 have BA:∀u',(Instr.typeAssert u xt t HK).run P w=.ok u' w->(execOp (ev tmps ds) ⟨dst,.typeAssert x xt t HK,ty,pos,AJ,BE⟩).run P w=.ok (.value u') w:=λu' h'=>by
  simp[execOp,hg,h']
 have L9:∀{y:V},wZ HK z k=.ok r->VR J y u->(u=.nilIface\/∃t' v',u=.iface t' v'/\t'≠t)->∃v,k v=.ok r/\PG P w J tmps ds ⟨dst,.typeAssert x xt t HK,ty,pos,AJ,BE⟩ v:=λem _ HZ=>by
  cases HK with
  |false=>cases em
  |true =>
   refine⟨_,em,.tuple #[zv,.bool false],BA _ ?_,IQ.tup2 (.bool _)⟩;rcases HZ with rfl|⟨t',v',rfl,BD⟩
   ·cases d<;>first|exact absurd rfl (Mz _)|simp[Instr.typeAssert,run_underlying hu,Ic]
   ·cases d<;>first|exact absurd rfl (Mz _)|simp[Instr.typeAssert,run_underlying hu,Ic,BD]
 cases c<;>simp only[Ny] at e1<;>first|cases e1|skip
 ·have hun:u=.nilIface:=by cases hc;rfl
  exact L9 (y:=.nili) e1 hc (.inl hun)
 ·rename_i t' u'
  obtain⟨v',hv,GZ⟩:∃v',u=.iface t' v'/\VR J u' v':=by cases hc with|ifc _ _ v' GZ=>exact⟨v',rfl,GZ⟩
  split at e1
  ·rename_i hb
   have ht:=Aa hb;subst ht;subst hv;cases HK with
   |true=>exact⟨_,e1,.tuple #[v',.bool true],BA _ (by cases d<;>first|exact absurd rfl (Mz _)|simp[Instr.typeAssert,run_underlying hu]),GZ.tup2 (.bool _)⟩
   |false=>exact⟨_,e1,v',BA _ (by cases d<;>first|exact absurd rfl (Mz _)|simp[Instr.typeAssert,run_underlying hu]),GZ⟩
  ·rename_i hb
   exact L9 (y:=.ifc t' u') e1 hc (.inr ⟨t',v',hv,λe0=>by rw[e0,Cj] at hb;cases hb⟩)
end more
def aT(x:Res)(k:V->Res):Res :=
 match x with
 |.ok v=>k v
 |e=>e
section nat
variable (k)
theorem yX(v:V):aT (.ok v) k=k v:=rfl
theorem cO(n:Nat):aT (.bad n) k=.bad n:=rfl
theorem o9(x:X)(tm:T V)(g:V->Res):aT (xK x tm g) k=xK x tm λv=>aT (g v) k:=by
 cases x<;>simp only[xK,dD,cO]
theorem fZ(b:Bool)(n:Nat)(g:Res):aT (gd b n g) k=gd b n (aT g k):=by cases b<;>rfl
theorem VM(v:V)(g:Bool->Res):aT (Ji v g) k=Ji v λx=>aT (g x) k:=by cases v<;>rfl
theorem Yv(v:V)(g:IntKind->Int->Res):aT (Mm v g) k=Mm v λx y=>aT (g x y) k:=by cases v<;>rfl
theorem VL(v:V)(g:Nat->Res):aT (KH v g) k=KH v λx=>aT (g x) k:=by
 cases v with
 |int kd n=>cases n<;>rfl
 |_=>rfl
theorem aW9(v:V)(g:Q->Nat->Res):aT (KG v g) k=KG v λx y=>aT (g x y) k:=by cases v<;>rfl
theorem aXa(v:V)(g:Nat->Nat->Res):aT (Jh v g) k=Jh v λx y=>aT (g x y) k:=by cases v<;>rfl
theorem aW8(v:V)(g:List V->Res):aT (NU v g) k=NU v λx=>aT (g x) k:=by cases v<;>rfl
theorem aBv(o:O)(g:Nat->T V->Res):aT (db o g) k=db o λx y=>aT (g x y) k:=by cases o<;>rfl
theorem aBs(o:O)(g:List (V×V)->Res):aT (v5 o g) k=v5 o λx=>aT (g x) k:=by cases o<;>rfl
theorem tg(kd:IntKind)(n:Int)(g:Int->Res):aT (iB kd n g) k=iB kd n λx=>aT (g x) k:=by
 cases n with
 |ofNat m =>
  simp only[iB,aF];split
  ·rfl
  ·simp only[fJ]
 |negSucc m=>simp only[iB,aF,fJ]
theorem Vn(b:Bool)(g:V->Res):aT (bK b g) k=bK b λx=>aT (g x) k:=by cases b<;>rfl
theorem aKc(op:BinOp)(a b:V)(g:V->Res):aT (nk op a b g) k=nk op a b λx=>aT (g x) k:=by
 cases a<;>simp only[nk,cO]
 ·cases b<;>simp only[cO,fZ]
  congr 1;cases op<;>simp only[pA,tg,Vn,fZ,fJ,cO]
 ·cases b<;>simp only[cO]
  cases op<;>simp only[zc,Vn,fZ,aF,cO]
theorem aBo(h:T O)(o:Q)(x:Nat)(o':Q)(y:Nat)(g:Bool->Res):aT (I6 h o x o' y g) k=I6 h o x o' y λb=>aT (g b) k:=by
 unfold I6;split
 ·split
  ·rfl
  ·simp only[bV,fZ]
 ·simp only[bV,fZ]
theorem aQV(m:EqM)(h:T O)(a b:V)(g:Bool->Res):aT (GO m h a b g) k=GO m h a b λx=>aT (g x) k:=by
 cases m<;>simp only[GO,VM]
 ·cases a<;>simp only[cO]
  ·cases b<;>simp only[cO]
  ·cases b<;>simp only[cO,aBo]
 all_goals cases a<;>simp only[cO]
 rename_i x;cases x<;>rfl
theorem aQU(v:V)(g:List V->Res):aT (JD v g) k=JD v λx=>aT (g x) k:=by cases v<;>rfl
theorem z8:∀(l:List V)(off:Nat)(new:List V)(g:List V->Res),aT (n8 l off new g) k=n8 l off new λx=>aT (g x) k
 |[],0,[],g=>rfl
 |[],0,_::_,g=>rfl
 |[],_+1,_,g=>rfl
 |x::l,0,[],g=>rfl
 |x::l,0,v::vs,g=>by simp only[n8,z8 l 0 vs]
 |x::l,off+1,new,g=>by simp only[n8,z8 l off new]
theorem aBn(tm:T V):∀(ps:List (Nat×Nat×X))(l:List V)(g:List V->Res),aT (aa tm ps l g) k=aa tm ps l λx=>aT (g x) k
 |[],l,g=>rfl
 |(off,n,x)::ps,l,g=>by simp only[aa,o9,aQU,cJ,fZ,z8,aBn tm ps]
theorem aQY(h:T O)(o:Q)(off:Nat)(g:V->Res):aT (JM h o off g) k=JM h o off λx=>aT (g x) k:=by
 simp only[JM,bV,aBv,fZ,jX,dD]
theorem aKg(h:T O)(o:Q)(off n:Nat)(g:List V->Res):aT (mD h o off n g) k=mD h o off n λx=>aT (g x) k:=by
 simp only[mD,bV,aBv,fZ,mA]
theorem aBt{α:Type}(l:List α)(n:Nat)(g:α->Res):aT (qe l n g) k=qe l n λx=>aT (g x) k:=by
 simp only[wu];cases l[n]?<;>rfl
theorem te:∀(n:Nat)(l:List V)(g:List V->Res),aT (n9 n l g) k=n9 n l λx=>aT (g x) k
 |0,l,g=>rfl
 |n+1,[],g=>rfl
 |n+1,v::l,g=>by simp only[n9,te n l]
theorem td:∀(off n:Nat)(l:List V)(g:List V->Res),aT (sI off n l g) k=sI off n l λx=>aT (g x) k
 |0,n,l,g=>by simp only[sI,te]
 |off+1,n,[],g=>rfl
 |off+1,n,v::l,g=>by simp only[sI,td off n l]
theorem aQW(agg:Bool)(off n:Nat)(l:List V)(g:V->Res):aT (Mg agg off n l g) k=Mg agg off n l λx=>aT (g x) k:=by
 cases agg<;>simp only[Mg,aBt,td]
theorem aFb(sz:Nat)(v:V)(i:Nat)(g:V->Res):aT (u3 sz v i g) k=u3 sz v i λx=>aT (g x) k:=by
 cases v<;>simp only[u3,cO,fZ,aF]
 rename_i x;cases x<;>simp only[ui,cO,fZ,aF]
theorem aBr(v:V)(g:Nat->Res):aT (pj v g) k=pj v λx=>aT (g x) k:=by
 cases v<;>first|rfl|skip
 rename_i x;cases x<;>rfl
theorem aBu(x:Option X)(tm:T V)(d:Nat)(g:Nat->Res):aT (wP x tm d g) k=wP x tm d λn=>aT (g n) k:=by
 cases x<;>simp only[wP,o9,VL]
theorem aFa(x:RK)(lo hi:Nat)(mx:Option Nat)(g:V->Res):aT (zm x lo hi mx g) k=zm x lo hi mx λx=>aT (g x) k:=by
 cases x<;>cases mx<;>simp only[zm,cO,fZ]
 congr 1;split<;>rfl
theorem aKd(sz:Nat)(v:V)(lo hi:Nat)(mx:Option Nat)(g:V->Res):aT (yA sz v lo hi mx g) k=yA sz v lo hi mx λx=>aT (g x) k:=by
 cases v<;>cases mx<;>simp only[yA,cO,fZ,aF,aFa]
 ·congr 1;split<;>rfl
 ·congr 1;split<;>rfl
 ·congr 1;split
  ·rfl
  ·split<;>rfl
 ·congr 1;split<;>rfl
theorem aIY(o:O)(g:Nat->T V->Res):aT (Mt o g) k=Mt o λn t=>aT (g n t) k:=by cases o<;>rfl
theorem aKf(h:T O)(x:RK)(g:V->Res):aT (LN h x g) k=LN h x λx=>aT (g x) k:=by
 cases x<;>simp only[LN,cO,bV,aIY,fZ,jX,dD]
theorem aFc(h:T O)(x:RK)(n:Nat)(g:List V->Res):aT (ph h x n g) k=ph h x n λx=>aT (g x) k:=by
 cases x<;>simp only[ph,bw,cO,bV,aIY,fZ,mA]
theorem aKe(x:RK)(off:Nat)(g:V->Res):aT (NN x off g) k=NN x off λx=>aT (g x) k:=by
 cases x<;>simp only[NN,cO,aF]
theorem aE9(v:V)(g:Q->Nat->Res)(gr:RK->Res):aT (uM v g gr) k=uM v (λo a=>aT (g o a) k) λx=>aT (gr x) k:=by cases v<;>rfl
theorem yz(f:FK)(x y:V)(g:Bool->Res):aT (fT f x y g) k=fT f x y λb=>aT (g b) k:=by
 cases f<;>cases x<;>simp only[fT,cO]<;>cases y<;>simp only[cO,fZ]
theorem uO:∀(fs:List FK)(xs ys:List V)(g:Bool->Res),aT (fC fs xs ys g) k=fC fs xs ys λb=>aT (g b) k
 |[],[],[],g=>rfl
 |[],[],_::_,g=>rfl
 |[],_::_,_,g=>rfl
 |_::_,[],_,g=>rfl
 |_::_,_::_,[],g=>rfl
 |f::fs,x::xs,y::ys,g=>by
  simp only[fC,yz];congr 1;funext b;cases b
  ·rfl
  ·exact uO fs xs ys g
theorem aBq(s:KK)(h:T O)(x y:V)(g:Bool->Res):aT (gC s h x y g) k=gC s h x y λb=>aT (g b) k:=by
 cases s<;>cases x<;>simp only[gC,cO]<;>cases y<;>simp only[cO,fZ,aBo,uO]
theorem sw(s:KK)(h:T O)(x:V):∀(es:List (V×V))(g:V->Res)(kn:Res),aT (j6 s h x es g kn) k=j6 s h x es (λv=>aT (g v) k) (aT kn k)
 |[],g,kn=>rfl
 |(y,v)::es,g,kn=>by
  simp only[j6,aBq];congr 1;funext b;cases b
  ·exact sw s h x es g kn
  ·rfl
theorem aBp(s:KK)(x:V)(g:Res):aT (iW s x g) k=iW s x (aT g k):=by
 cases s<;>simp only[iW]
 cases x<;>simp only[cO,cJ,fZ]
theorem aIZ(tm:T V):∀(xs:List X)(g:List V->Res),aT (H8 xs tm g) k=H8 xs tm λx=>aT (g x) k
 |[],g=>rfl
 |x::xs,g=>by
  have h1:∀g,H8 (x::xs) tm g=xK x tm λv=>H8 xs tm λl=>g (v::l):=λg=>rfl
  rw[h1,h1,o9];congr 1;funext v;rw[aIZ tm xs]
end nat
theorem qo(b:PB)(tm:T V)(h:T O)(k:V->Res):pK b tm h k=aT (pK b tm h .ok) k:=by
 cases b
 case pick c x y =>
  simp only[pK,o9,VM];congr 1;funext v;congr 1;funext t;cases t<;>simp only[o9,yX]
 case nck x =>
  simp only[pK,o9];congr 1;funext v;cases v<;>first|rfl|skip
  rename_i x;cases x<;>rfl
 case slL sz x lo hi mx =>
  simp only[pK,o9,aBr,aBu];congr 1;funext v;congr 1;funext l;congr 1;funext a;congr 1;funext b;cases mx<;>simp only[aKd,o9,VL,yX]
 case lk s ok z m key =>
  simp only[pK,o9];congr 1;funext m;congr 1;funext x;rw[aBp];congr 1;cases m<;>simp only[cO]
  ·cases ok<;>rfl
  ·simp only[bV,aBs]
   congr 1;funext es;cases ok<;>simp only[sw,yX]
 case lenM x =>
  simp only[pK,o9];congr 1;funext v;cases v<;>simp only[cO,yX,bV,aBs,cJ]
 case ta ok t z x =>
  simp only[pK,o9];congr 1;funext v;cases v<;>simp only[Ny,wZ,cO]
  ·cases ok<;>rfl
  ·rename_i t' u
   cases Nat.beq t' t<;>cases ok<;>rfl
 case max x y =>
  simp only[pK,o9,Yv];congr 1;funext a;congr 1;funext b;congr 1;funext ka n;congr 1;funext kb m;cases K5 m n<;>rfl
 case ex i x =>
  simp only[pK,o9];congr 1;funext v;cases v<;>simp only[cO,aBt,yX]
 all_goals simp only[pK,o9,fZ,VM,Yv,VL,aW9,aXa,aW8,tg,Vn,aKc,aQV,aBn,aQY,aKg,aE9,aKf,aFc,aKe,aQW,aFb,aBr,aBu,aIZ,yX,cO,aF]
theorem pZ{b:PB}(e:pK b tm h k=.ok r):∃v,pK b tm h .ok=.ok v/\k v=.ok r:=by
 rw[qo] at e;cases hp:pK b tm h .ok with
 |ok v=>rw[hp] at e;exact⟨v,rfl,e⟩
 |bad n=>rw[hp] at e;cases e
 |fuel=>rw[hp] at e;cases e
theorem xd{b:PB}(hb:Qr b=false)(h h':T O):pK b tm h k=pK b tm h' k:=by
 cases b<;>first|rfl|cases hb
theorem jW{o:Option PB}{b:PB}(hb:Ha o=.p b):o=some b\/b=.bad:=by
 cases o with
 |none=>simp only[Ha] at hb;cases hb;exact .inr rfl
 |some p=>simp only[Ha] at hb;cases hb;exact .inl rfl
theorem V5{o:Option AB}{b:PB}(hb:KZ o=.p b):b=.bad:=by
 cases o<;>simp only[KZ] at hb<;>cases hb;rfl
theorem Zq{o:Option WB}{b:PB}(hb:LM o=.p b):b=.bad:=by
 cases o<;>simp only[LM] at hb<;>cases hb;rfl
theorem aDJ(H:HR P w0 J h nx w){o:Oper}{b:PB}(hb:bT P o=.p b)(hT:XR J tm tmps o.op.operands.toList)(e:pK b tm h k=.ok r):∃v,k v=.ok r/\PG P w J tmps ds o v:=by
 have bad:b=.bad->∃v,k v=.ok r/\PG P w J tmps ds o v:=λhb=>by subst hb;cases e
 obtain⟨dst,op,ty,pos,AJ,BE⟩:=o;cases op<;>simp only[bT] at hb
 case move x=>cases hb;exact aNa H hT e
 case assign x=>cases hb;exact aDM H hT e
 case pick c x y=>cases hb;exact aNb H hT e
 case alloc t=>exact bad (V5 hb)
 case box t x=>exact bad (V5 hb)
 case build t parts =>
  rcases jW hb with hb|hb
  ·obtain⟨z,hz,hb⟩:=dL hb
   obtain⟨ps,hp,hb⟩:=mF hb;subst hb;exact aST H hz hp hT e
  ·exact bad hb
 case buildSlice t len parts=>exact bad (V5 hb)
 case load t a =>
  rcases jW hb with hb|hb
  ·obtain⟨g,hg,hb⟩:=dL hb
   obtain⟨s,hs,hb⟩:=dL hb;cases g with
   |true=>simp at hb;subst hb;exact aSZ H hg hs hT e
   |false =>
    simp only at hb
    split at hb
    ·simp at hb;subst hb;exact aSY H hg hT e
    ·cases hb
  ·exact bad hb
 case store t a x=>exact bad (Zq hb)
 case nilCheck x=>cases hb;exact aS3 H hT e
 case binOp op t x y yt=>cases hb;exact aG3 H hT e
 case unOp op t x =>
  cases op<;>simp only at hb<;>cases hb<;>first|exact bad rfl|exact aNc H hT e
 case convert s d x =>
  split at hb
  ·cases hb;rename_i hs hd;exact aSU H hs hd hT e
  ·split at hb
   ·cases hb
   ·cases hb;exact bad rfl
  ·cases hb;exact bad rfl
 case makeInterface t x =>
  split at hb
  ·cases hb;exact bad rfl
  ·cases hb;rename_i d hd hu;exact aS2 H hu (λm hm=>hd m hm) hT e
  ·cases hb;exact bad rfl
 case makeFunc fn first caps =>
  split at hb
  ·cases hb;exact aS1 H hT e
  ·cases hb;exact bad rfl
 case makeMap t r =>
  split at hb
  ·cases hb
  ·cases hb;exact bad rfl
 case slice t x lo hi mx =>
  split at hb
  ·cases hb;rename_i hu;exact aS5 H hu hT e
  ·rename_i el _ hu
   split at hb
   ·cases hb;exact bad rfl
   ·rename_i TG
    rcases jW hb with hb|hb
    ·obtain⟨s,hs,hb⟩:=mF hb
     subst hb;exact aS4 H hu hs TG hT e
    ·exact bad hb
  ·cases hb;exact bad rfl
 case fieldAddr t x f =>
  rcases jW hb with hb|hb
  ·obtain⟨ot,hf,hb⟩:=dL hb
   obtain⟨s,hs,hb⟩:=dL hb
   split at hb
   ·rename_i h0
    simp at hb;subst hb;exact aYS H hf hs h0 hT e
   ·cases hb
  ·exact bad hb
 case field t x f =>
  rcases jW hb with hb|hb
  ·obtain⟨ot,hf,hb⟩:=dL hb
   obtain⟨s,hs,hb⟩:=dL hb;obtain⟨g,hg,hb⟩:=mF hb;subst hb;exact aYT H hf hs hg hT e
  ·exact bad hb
 case indexAddr t x i =>
  split at hb
  ·rename_i el hu
   rcases jW hb with hb|hb
   ·obtain⟨s,hs,hb⟩:=mF hb
    subst hb;exact aYU H hu hs hT e
   ·exact bad hb
  ·rename_i len el hu
   rcases jW hb with hb|hb
   ·obtain⟨s,hs,hb⟩:=mF hb
    subst hb;exact aSV H hu hs hT e
   ·exact bad hb
  ·cases hb;exact bad rfl
 case index t x i =>
  split at hb
  ·cases hb;rename_i hu;exact aSX H hu hT e
  ·rename_i len el hu
   rcases jW hb with hb|hb
   ·obtain⟨s,hs,hb⟩:=dL hb
    obtain⟨g,hg,hb⟩:=mF hb;subst hb;exact aSW H hu hs hg hT e
   ·exact bad hb
  ·cases hb;exact bad rfl
 case lookup t m key ok =>
  split at hb
  ·rename_i s el ht
   rcases jW hb with hb|hb
   ·obtain⟨z,hz,hb⟩:=mF hb
    subst hb;exact aYV H ht hz hT e
   ·exact bad hb
  ·cases hb;exact bad rfl
 case mapUpdate t m key x=>split at hb<;>cases hb;exact bad rfl
 case insert t m key x=>split at hb<;>cases hb;exact bad rfl
 case extract x i=>cases hb;exact aYR H hT e
 case typeAssert x xt t HK =>
  rcases jW hb with hb|hb
  ·obtain⟨d,hd,hb⟩:=dL hb
   split at hb
   ·cases hb
   ·rename_i Mz
    obtain⟨z,hz,hb⟩:=mF hb;subst hb;exact aYW H hd (λms e0=>Mz ms e0) hz hT e
  ·exact bad hb
 case call c =>
  obtain⟨Mk,a,ts⟩:=c;cases Mk<;>simp only[gR] at hb
  ·cases hb
  ·cases hb
  ·split at hb
   ·exact bad (Zq hb)
   ·rename_i x t ha Jo
    split at hb
    ·cases hb;rename_i hu;exact Zo H ha Jo (.inl ⟨hu,rfl⟩) hT e
    ·cases hb;rename_i hu;exact Zo H ha Jo (.inr (.inl ⟨_,hu,rfl⟩)) hT e
    ·cases hb;exact bad rfl
   ·cases hb;rename_i ha;exact aS0 H ha hT e
   ·cases hb
   ·cases hb;exact bad rfl
 case defer c =>
  split at hb
  ·cases hb
  ·cases hb;exact bad rfl
 all_goals (cases hb;exact bad rfl)
end
section
open Go.AM (oneC overwrite aX aR run_underlying run_sizeOf dA aU aP aM aC aO AD bO cE bytes_beq run_getObj run_setObj heap_alloc_new iU)
variable {P:Program}{w0:Base}{w:World}{J:Rho}{h:T O}{nx:Q}{tm:T V}{tmps:Array Value}{ds:List Deferred}{r v:V}
theorem qD:∀(a b:List V)(i:Nat)(t:T V),dE (a++b) i t=dE b (i+a.length) (dE a i t)
 |[],b,i,t=>by simp[dE]
 |v::a,b,i,t=>by
  simp only[De,dE,qD a b,An];rw[show i+1+a.length=i+(a.length+1) by omega]
theorem mN(z:List V):∀n,(sS z n).length=n*z.length
 |0=>by simp[sS]
 |n+1=>by simp[sS,mN z n,Cr,Nat.add_comm]
theorem wV(z:List V):∀(n j:Nat) c,(sS z n)[j]?=some c->z[j%z.length]?=some c
 |0,j,c,h=>by simp[sS] at h
 |n+1,j,c,h=>by
  simp only[sS] at h;rw[Ck] at h
  split at h
  ·rename_i hj
   rw[Fk hj];exact h
  ·rename_i hj
   have:=wV z n _ c h
   rw[<-Nat.mod_eq_sub_mod (by omega)] at this;exact this
theorem wM:∀(vs:List V)(n:Nat)(t:T V),T.ofListF V.undef vs (qn n) t=dE vs n t
 |[],n,t=>rfl
 |v::vs,n,t=>by simp only[T.ofListF,dE,xi,wM vs]
theorem ofList_eq(vs:List V):T.ofList vs=dE vs 0 .nil:=wM vs 0 .nil
def TL(t:T V)(L:List V):Prop:=∀(j:Nat) c,L[j]?=some c->t.at j=c
theorem TL.puts(L:List V)(t:T V):TL (dE L 0 t) L:=λj c hc=>by
 have hj:j<L.length:=(Ab.1 hc).1;rw[gW,Bu ⟨by omega,by omega⟩];simp[Br,hc]
theorem TL.over{t:T V}{L c:List V}{off:Nat}(h:TL t L)(hle:off+c.length<=L.length):TL (dE c off t) (overwrite L off c):=λj x hx=>by
 rw[aX _ _ _ _ hle] at hx;rw[gW];by_cases h1:j<off
 ·rw[Bu h1] at hx
  rw[Bc (by omega)];exact h j x hx
 ·rw[Bc h1] at hx
  by_cases h2:j<off+c.length
  ·rw[Bu h2] at hx
   rw[Bu ⟨by omega,h2⟩,Br,hx];rfl
  ·rw[Bc h2] at hx
   rw[Bc (by omega)];exact h j x hx
theorem OR.new{J':Rho}{L:List V}{vs:List Value}{t:T V}{T':TypeId}{B0:Nat}(hB:B0<=w.heap.size)(ht:TL t L)(hv:VRs J' L vs)(hk:∀c∈L,isCell c=true) :
  OR P J' (w.alloc (.cells ⟨vs⟩ T')) B0 (.row L.length t [] 0 T' true) w.heap.size vs.length :=
 .row _ _ _ _ _ _ _ _ vs hB (AM.heap_alloc_new _) rfl (by rw[hv.1];exact Af _) (Di _) (λ_=>hv.1) (λa ha=>by cases ha) (λi v hi GZ=>by
  have h1:=ht i L[i] (by simp[hi]);rw[h1];exact hv.2 i _ v (by simp[hi]) GZ) λi hi=>by
  have h1:=ht i L[i] (by simp[hi]);rw[h1];exact hk _ (Dx hi)
theorem tr(H:HR P w0 J h nx w){sz n:Nat}:∀{parts:List (Nat×Operand)}{t:T V}{L:List V}{Ls:List Value}{k:T V->Res},XR J tm tmps (parts.map (·.2))->(∀p∈parts,p.1<n)->L.length=n*sz->TL t L->VRs J L Ls->(∀c∈L,isCell c=true) ->
  sM tm sz (iQ P parts) t k=.ok r->∃t' L' KJ,(∀k',sM tm sz (iQ P parts) t k'=k' t')/\k t'=.ok r/\L'.length=n*sz/\TL t' L'/\VRs J L' KJ/\(∀c∈L',isCell c=true) /\
   Instr.fill (λi=>some (i*sz,sz)) ⟨Ls⟩ (parts.map λp=>(p.1,ev tmps ds p.2))=some ⟨KJ⟩
 |[],t,L,Ls,k,hT,hp,hL,ht,hv,hk,e=>⟨t,L,Ls,λ_=>rfl,e,hL,ht,hv,hk,rfl⟩
 |(i,x)::parts,t,L,Ls,k,hT,hp,hL,ht,hv,hk,e=>by
  have e0:∀k',sM tm sz (iQ P ((i,x)::parts)) t k'=xK (aE P x) tm λv=>JD v λc=>rJ c λm=>gd (Nat.beq m sz) 57 (jP c (i*sz) t λt'=>sM tm sz (iQ P parts) t' k'):=λk'=>rfl
  rw[e0] at e;obtain⟨c,h1,e⟩:=fA e;have hc:=hY (ds:=ds) H.glob (hT.sub (λy hy=>by simp at hy;simp[hy])) h1;obtain⟨l,hl,e⟩:=rB e;rw[cJ] at e;obtain⟨hg,e⟩:=bP e;rw[cV] at e;have RB:=Aa hg;obtain⟨g1,g2,g3⟩:=hc.cells hl;have hi:=hp (i,x) (by simp)
  have hle:i*sz+l.length<=L.length:=by
   rw[RB,hL,<-Es];exact Cq _ hi
  obtain⟨t',L',KJ,f0,f1,f2,f3,f4,f5,f6⟩:=tr H (hT.sub (λy hy=>by simp at hy ⊢;exact .inr hy)) (λp Ii=>hp p (by simp[Ii])) (by rw[aR _ _ _ hle];exact hL) (ht.over hle) (hv.over (off:=i*sz) g1) (zJ hk g2) e;refine⟨t',L',KJ,λk'=>?_,f1,f2,f3,f4,f5,?_⟩
  ·rw[e0]
   have hx:∀Lx:V->Res,xK (aE P x) tm Lx=Lx c:=λLx=>by
    cases NG:aE P x with
    |t q=>rw[NG] at h1;simp only[xE,Al] at h1;subst h1;simp only[xK,dD]
    |c v=>rw[NG] at h1;simp only[xE,Al] at h1;subst h1;rfl
    |bad=>rw[NG] at h1;cases h1
   have I2:∀Lx:List V->Res,JD c Lx=Lx l:=λLx=>by
    rcases hl with rfl|⟨h1,rfl⟩
    ·rfl
    ·cases c<;>first|rfl|cases h1
   rw[hx,I2,cJ,hg,gd,cV];exact f0 k'
  ·have BC:(ev tmps ds x).cells.size=sz:=by
    have:=g1.1
    rw[RB] at this;simpa using this.symm
   have hzl:i*sz+(ev tmps ds x).cells.size<=Ls.length:=by rw[<-hv.1,BC];rw[RB] at hle;exact hle
   simp only[Bb,Instr.fill];rw[Bc (by simp[BC];rw[<-BC];simpa[BC] using hzl),iU _ _ _ (by simpa using hzl)];exact f6
def AE(b:AB)(tm:T V)(ob:O)(mk:Q->V):Prop:=∀k:O->(Q->V)->Res,aK b tm k=k ob mk
theorem jZ{x:X}{v:V}(h1:xE tm x=some v)(k:V->Res):xK x tm k=k v:=by
 cases x with
 |t q=>simp only[xE,Al] at h1;subst h1;simp only[xK,dD]
 |c v=>simp only[xE,Al] at h1;subst h1;rfl
 |bad=>cases h1
theorem ao{v:V}{l:List V}(h:VC v l)(k:List V->Res):JD v k=k l:=by
 rcases h with rfl|⟨h1,rfl⟩
 ·rfl
 ·cases v<;>first|rfl|cases h1
structure AG (P:Program) (w0:Base) (w:World) (J:Rho) (tmps:Array Value) (ds:List Deferred) (o:Oper) (ob:O) (mk:Q->V):Prop where
 run:∃x N u,(execOp (ev tmps ds) o).run P w=.ok (.value u) (w.alloc x)/\∀q,J q=none->OR P (J.set q w.heap.size N) (w.alloc x) w0.heap.size ob w.heap.size N/\VR (J.set q w.heap.size N) (mk q) u
section
variable {dst:Option Nat}{ty:TypeId}{pos:String}{AJ:Array Edge}{BE:Option (Nat×Bool)}{k:O->(Q->V)->Res}
theorem aVX(H:HR P w0 J h nx w){t:TypeId}{z:List V}(hz:oD P t=some z):AG P w0 w J tmps ds ⟨dst,.alloc t,ty,pos,AJ,BE⟩ (.row z.length (T.ofList z) [] 0 t true) (λq=>.ptr q 0):=by
 obtain⟨zv,h1,h2,h3,h4,h5⟩:=qR (J:=J) hz;refine⟨.cells ⟨zv.cells.toList⟩ t,zv.cells.toList.length,.pointer (some ⟨w.heap.size,0,none⟩),?_,λq hq=>⟨?_,?_⟩⟩
 ·simp[execOp,Instr.alloc,aU h1,newVar,newRow]
 ·refine OR.new H.size ?_ (h3.mono (Rho.set_le hq)) h4
  rw[ofList_eq];exact TL.puts _ _
 ·exact .ptr _ _ _ _ Rho.set_same
theorem aVY(H:HR P w0 J h nx w){t:TypeId}{x:Operand}{n:Nat}(hT:XR J tm tmps (Op.operands (.box t x)).toList)(e:aK (.bx t n (aE P x)) tm k=.ok r) :
  ∃ob mk,AE (.bx t n (aE P x)) tm ob mk/\k ob mk=.ok r/\AG P w0 w J tmps ds ⟨dst,.box t x,ty,pos,AJ,BE⟩ ob mk:=by
 simp only[aK] at e;obtain⟨c,h1,e1⟩:=fA e;have hc:=hY (ds:=ds) H.glob (hT.sub (by simp[Op.operands])) h1;obtain⟨l,hl,e2⟩:=rB e1;rw[cJ] at e2;obtain⟨hg,e3⟩:=bP e2;rw[cV] at e3;obtain⟨g1,g2,g3⟩:=hc.cells hl;have Gu:=Aa hg;refine⟨_,_,λk'=>by simp only[aK,jZ h1,ao hl,cJ,hg,gd,cV],e3,⟨.cells ⟨(ev tmps ds x).cells.toList⟩ t,(ev tmps ds x).cells.toList.length,.pointer (some ⟨w.heap.size,0,none⟩),?_,λq hq=>⟨?_,.ptr _ _ _ _ Rho.set_same⟩⟩⟩
 ·simp[execOp,Instr.box,newVar,newRow]
 ·rw[<-Gu]
  exact OR.new H.size (TL.puts _ _) (g1.mono (Rho.set_le hq)) g2
theorem aOU(H:HR P w0 J h nx w){t:TypeId}:AG P w0 w J tmps ds ⟨dst,.makeMap t none,ty,pos,AJ,BE⟩ (.map []) (λq=>.map q):=by
 refine⟨.map #[] 0,0,.map (some w.heap.size),?_,λq hq=>⟨.map [] [] 0 _ _ H.size (AM.heap_alloc_new _) ⟨rfl,λi p e h=>by simp at h,λi p e h=>by simp at h⟩ ⟨rfl,λi e h=>by simp at h⟩,.map _ _ _ Rho.set_same⟩⟩;simp[execOp,Instr.makeMap]
theorem aU7{J':Rho}{z:List V}{zv:Value}(hz:VRs J' z zv.cells.toList)(CG:0<z.length)(n:Nat):VRs J' (sS z n) ((List.range (n*z.length)).map λp=>zv.cells[p%zv.cells.size]!):=by
 have BC:zv.cells.size=z.length:=by simpa using hz.1.symm
 refine⟨by simp[mN],λj c u hc hu=>?_⟩;have hj:j<n*z.length:=by have:=(Ab.1 hu).1;simpa using this
 simp only[Av,Ce hj,Bw,Al] at hu;have h1:=wV z n j c hc;have hm:j%z.length<zv.cells.size:=by rw[BC];exact Et _ CG
 refine hz.2 (j%z.length) c u h1 ?_;rw[BC] at hu;rw[<-hu];simp[hm]
theorem aAK{z:List V}(hk:∀c∈z,isCell c=true)(n:Nat):∀c∈sS z n,isCell c=true:=λc hc=>by
 obtain⟨j,hj⟩:=Dg hc;exact hk c (Ba (wV z n j c hj))
theorem aOT(H:HR P w0 J h nx w){t el:TypeId}{len:Nat}{parts:Array (Nat×Operand)}{z:List V}(hu:P.underlying t=some (.slice el))(hz:oD P el=some z)(CG:0<z.length)(hle:len*z.length<=16777216)(hp:∀p∈parts.toList,p.1<len)
  (hT:XR J tm tmps (Op.operands (.buildSlice t len parts)).toList) (e:aK (.bsl el z.length len (T.ofList (sS z len)) (iQ P parts.toList)) tm k=.ok r) :
  ∃ob mk,AE (.bsl el z.length len (T.ofList (sS z len)) (iQ P parts.toList)) tm ob mk/\k ob mk=.ok r/\AG P w0 w J tmps ds ⟨dst,.buildSlice t len parts,ty,pos,AJ,BE⟩ ob mk:=by
 simp only[aK] at e;obtain⟨zv,h1,h2,h3,h4,h5⟩:=qR (J:=J) hz;have NJ:XR J tm tmps (parts.toList.map (·.2)):=hT.sub (λx hx=>by simpa[Op.operands] using hx);obtain⟨t',L',KJ,f0,f1,f2,f3,f4,f5,f6⟩:=tr (ds:=ds) (n:=len) H NJ hp (mN z len) (by rw[ofList_eq];exact TL.puts _ _) (aU7 h3 CG len) (aAK h4 len) e;rw[aF] at f1
 have BA:(Instr.buildSlice t len (parts.map λ(i,x)=>(i,ev tmps ds x))).run P w=.ok (.slice (some ⟨w.heap.size,0,none⟩) len len) (w.alloc (.cells ⟨KJ⟩ el)):=by
  have BC:zv.cells.size=z.length:=by simpa using h3.1.symm
  have DF:(Array.range (len*z.length)).map (λp=>zv.cells[p%zv.cells.size]!)=⟨(List.range (len*z.length)).map λp=>zv.cells[p%zv.cells.size]!⟩:=by
   apply Cp;simp
  by_cases h0:len*z.length=0
  ·have hlen0:len=0:=by rcases Nat.mul_eq_zero.1 h0 with h'|h'
                        ·exact h'
                        ·omega
   subst hlen0;simp only[Fi,List.range_zero,Ax] at f6;simp only[Instr.buildSlice,Sem.run_bind,run_underlying hu,Result.andThen_ok,run_sizeOf h2];simp;have Mh:Instr.fill (λi=>some (i*z.length,z.length)) #[] (parts.map λ(i,x)=>(i,ev tmps ds x)).toList=some ⟨KJ⟩:=by simpa using f6
   simp at Mh;have MG:Array.map (λ_:Nat=>(default:Value)) (Array.range 0)=#[]:=by apply Cp;simp
   simp[MG,Mh,newRow]
  ·have EK:¬len*z.length>2^24:=by omega
   simp only[Instr.buildSlice,Sem.run_bind,run_underlying hu,Result.andThen_ok,run_sizeOf h2]
   have Mh:Instr.fill (λi=>some (i*z.length,z.length)) ((Array.range (len*z.length)).map (λp=>zv.cells[p%zv.cells.size]!)) (parts.map λ(i,x)=>(i,ev tmps ds x)).toList=some ⟨KJ⟩:=by
    rw[DF];simpa using f6
   rw[Bc EK];simp only[Bc h0,Sem.run_bind,aU h1,Result.andThen_ok,Sem.run_pure,Mh,newRow,run_newObj];rfl
 have hlen:len*z.length=L'.length:=f2.symm;refine⟨_,_,λk'=>by simp only[aK];rw[f0,aF],f1,⟨.cells ⟨KJ⟩ el,KJ.length,.slice (some ⟨w.heap.size,0,none⟩) len len,?_,λq hq=>⟨?_,.sl _ _ _ _ _ _ Rho.set_same (Af _)⟩⟩⟩
 ·simp[execOp,BA]
 ·rw[hlen]
  exact OR.new H.size f3 (f4.mono (Rho.set_le hq)) f5
end
end
section
open Go.AM (oneC overwrite aX aR run_underlying run_sizeOf dA aU aP aM aC aO AD bO cE bytes_beq run_getObj run_setObj heap_alloc_new iU)
variable {P:Program}{w0:Base}{w:World}{J:Rho}{h:T O}{nx:Q}{tm:T V}{tmps:Array Value}{ds:List Deferred}{r v:V}
section
variable {dst:Option Nat}{ty:TypeId}{pos:String}{AJ:Array Edge}{BE:Option (Nat×Bool)}{k:O->(Q->V)->Res}
theorem qJ{t e:TypeId}(h:aO P t=some e):P.underlying t=some (.slice e):=by
 unfold aO at h
 split at h
 ·cases h;assumption
 ·cases h
theorem qj{o:Option AB}{b:AB}(hb:KZ o=.a b):o=some b:=by
 cases o with
 |none=>cases hb
 |some p=>simp only[KZ] at hb;cases hb;rfl
theorem n6{o:Option PB}{b:AB}(hb:Ha o=.a b):False:=by cases o<;>cases hb
theorem Zr{o:Option WB}{b:AB}(hb:LM o=.a b):False:=by cases o<;>cases hb
theorem aBc(H:HR P w0 J h nx w){o:Oper}{b:AB}(hb:bT P o=.a b)(hT:XR J tm tmps o.op.operands.toList)(e:aK b tm k=.ok r) :
  ∃ob mk,AE b tm ob mk/\k ob mk=.ok r/\AG P w0 w J tmps ds o ob mk:=by
 obtain⟨dst,op,ty,pos,AJ,BE⟩:=o;cases op<;>simp only[bT] at hb
 case alloc t =>
  obtain⟨z,hz,hb⟩:=mF (qj hb);subst hb;exact⟨_,_,λ_=>rfl,e,aVX H hz⟩
 case box t x =>
  obtain⟨s,hs,hb⟩:=mF (qj hb);subst hb;exact aVY H hT e
 case buildSlice t len parts =>
  obtain⟨el,J9,hb⟩:=dL (qj hb);obtain⟨z,hz,hb⟩:=dL hb
  split at hb
  ·rename_i hg
   simp at hb;subst hb;rw[Ac,Ac] at hg;exact aOT H (qJ J9) hz (dM hg.1.1) (Ad hg.1.2) (λp hp=>dM (As.1 hg.2 p hp)) hT e
  ·cases hb
 case makeMap t r' =>
  split at hb
  ·cases hb;exact⟨_,_,λ_=>rfl,e,aOU H⟩
  ·cases hb
 case binOp op t x y yt=>cases hb
 case build t parts=>exact(n6 hb).elim
 case load t a=>exact(n6 hb).elim
 case store t a x=>exact(Zr hb).elim
 case unOp op t x=>cases op<;>cases hb
 case convert s d x =>
  split at hb
  ·cases hb
  ·split at hb<;>cases hb
  ·cases hb
 case makeInterface t x=>split at hb<;>cases hb
 case makeFunc fn first caps=>split at hb<;>cases hb
 case slice t x lo hi mx =>
  split at hb
  ·cases hb
  ·split at hb
   ·cases hb
   ·exact(n6 hb).elim
  ·cases hb
 case fieldAddr t x f=>exact(n6 hb).elim
 case field t x f=>exact(n6 hb).elim
 case indexAddr t x i =>
  split at hb
  ·exact(n6 hb).elim
  ·exact(n6 hb).elim
  ·cases hb
 case index t x i =>
  split at hb
  ·cases hb
  ·exact(n6 hb).elim
  ·cases hb
 case lookup t m key ok =>
  split at hb
  ·exact(n6 hb).elim
  ·cases hb
 case mapUpdate t m key x=>split at hb<;>cases hb
 case insert t m key x=>split at hb<;>cases hb
 case call c =>
  obtain⟨Mk,a,ts⟩:=c;cases Mk<;>simp only[gR] at hb
  ·cases hb
  ·cases hb
  ·split at hb
   ·exact(Zr hb).elim
   ·split at hb<;>cases hb
   ·cases hb
   ·cases hb
   ·cases hb
 case defer c=>split at hb<;>cases hb
 case typeAssert x xt t HK=>exact(n6 hb).elim
 all_goals cases hb
end
end
end Go.CM
end
