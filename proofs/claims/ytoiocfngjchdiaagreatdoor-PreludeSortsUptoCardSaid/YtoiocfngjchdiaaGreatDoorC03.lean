import Derived.Test.YtoiocfngjchdiaaGreatDoorC02
import Derived.Laws.StructEq
import Derived.Lib.Builder
import Derived.Lib.UnsafeStr
set_option linter.all false
noncomputable section
namespace Go.CM
section
open Go.AM (hV overwrite run_underlying run_sizeOf dG aS aU aW bC aQ AD bP cH bytes_beq mf qj)
variable {P:Program}{w0:cL}{w:World}{J:ak}{h:T O}{nx:Q}{tm:T V}{tmps:Array Value}{ds:List Deferred}{k:V->aa}{r v:V}
variable {dst:Option Nat}{ty:TypeId}{pos:String}{AK:Array Edge}{BE:Option (Nat×Bool)}
theorem aS9(H:HR P w0 J h nx w){t:TypeId}{x:Operand}{d:TypeDesc}(hu:P.underlying t=some d)(hd:∀m,d≠.interface m)(hT:XR J tm tmps (Op.operands (.makeInterface t x)).toList)(e:pK (.mki t (aE P x)) tm h k=.ok r) :
  ∃v,k v=.ok r/\PG P w J tmps ds ⟨dst,.makeInterface t x,ty,pos,AK,BE⟩ v:=by
 simp only[pK] at e;obtain⟨c,e1,hc⟩:=bd (ds:=ds) (o:=⟨dst,.makeInterface t x,ty,pos,AK,BE⟩) H hT (by simp[Op.operands]) e;refine⟨_,e1,.iface t (ev tmps ds x),?_,.kh _ _ _ hc⟩;simp only[execOp,Instr.makeInterface,Sem.run_bind,run_underlying hu,Result.andThen_ok];cases d<;>first|rfl|exact absurd rfl (hd _)
theorem aS8(H:HR P w0 J h nx w){f:Nat}{first caps:Array Operand}(hT:XR J tm tmps (Op.operands (.makeFunc (.func f) first caps)).toList)(e:pK (.mkf (qn f) (first.toList.map (aE P)) (caps.toList.map (aE P))) tm h k=.ok r) :
  ∃v,k v=.ok r/\PG P w J tmps ds ⟨dst,.makeFunc (.func f) first caps,ty,pos,AK,BE⟩ v:=by
 simp only[pK] at e;obtain⟨l,h1,e1⟩:=sT e;obtain⟨m,h2,e2⟩:=sT e1;have hl:=oH (ds:=ds) H.jt (hT.sub (λy hy=>by simp[Op.operands];exact .inl (by simpa using hy))) h1;have hm:=oH (ds:=ds) H.jt (hT.sub (λy hy=>by simp[Op.operands];exact .inr (by simpa using hy))) h2;have hv:=VR.fn (J:=J) (qn f) l m _ _ hl.1 hm.1 hl.2 hm.2;rw[dY] at hv;refine⟨_,e2,_,?_,hv⟩;have a1:first.map (ev tmps ds)=⟨first.toList.map (ev tmps ds)⟩:=by apply Cr;simp
 have a2:caps.map (ev tmps ds)=⟨caps.toList.map (ev tmps ds)⟩:=by apply Cr;simp
 simp[execOp,Instr.makeFunc,a1,a2]
theorem VR.a0V{u:Value}(h:VR J .mo u):u=.map none:=by cases h;rfl
def KT(P:Program)(s:KK)(t:TypeId):Prop :=
 match s with
 |.str=>P.underlying t=some .string
 |.int=>∃kd,P.underlying t=some (.int kd)
 |.ptr=>∃e j,P.underlying t=some (.pointer e)/\P.info? e=some j/\j.size≠0
 |.st l=>∃fs,P.underlying t=some (.struct fs)/\kU P fs.toList 0=some l/\P.stoodInHeld t=false
theorem a3W{t e:TypeId}{s:KK}(hm:ud P t=some (s,e)):∃kt,P.underlying t=some (.map kt e)/\KT P s kt:=by
 unfold ud at hm
 split at hm
 ·rename_i kt e' hu
  split at hm
  ·simp at hm;obtain⟨rfl,rfl⟩:=hm
   exact⟨kt,hu,by assumption⟩
  ·simp at hm;obtain⟨rfl,rfl⟩:=hm
   exact⟨kt,hu,_,by assumption⟩
  ·rename_i p hp
   split at hm
   ·rename_i sz hs
    split at hm
    ·rename_i h0
     simp at hm;obtain⟨rfl,rfl⟩:=hm;obtain⟨j,hj,Mo⟩:=mY hs;exact⟨kt,hu,p,j,hp,hj,by have:=dR h0;omega⟩
    ·cases hm
   ·cases hm
  ·rename_i fs hfs
   split at hm
   ·cases hm
   ·rename_i hg
    obtain⟨l,hl,hm⟩:=mY hm;simp at hm;obtain⟨rfl,rfl⟩:=hm;exact⟨kt,hu,fs,hfs,hl,hg⟩
  ·cases hm
 ·cases hm
theorem KT.desc{s:KK}{t:TypeId}(hk:KT P s t):∃d,P.underlying t=some d:=by
 cases s with
 |str=>exact⟨_,hk⟩
 |int=>exact⟨_,hk.choose_spec⟩
 |ptr=>obtain⟨e,j,h,_⟩:=hk;exact⟨_,h⟩
 |st n=>obtain⟨fs,h,_⟩:=hk;exact⟨_,h⟩
theorem sM{t:TypeId}{vs:List Value}{off:Nat}{u:Value}(ha:aW P t=some false)(hu:vs[off]?=some u):(part t ⟨vs⟩ off).run P w=.ok u w:=by
 have hi:off<vs.length:=(Ab.1 hu).1;have he:vs[off]=u:=(Ab.1 hu).2;simp[part,dG ha,hi,he]
def FT(P:Program)(f:FK)(t:TypeId):Prop :=
 match f with
 |.b=>P.underlying t=some .bool
 |.s=>P.underlying t=some .string
 |.i=>∃kd,P.underlying t=some (.int kd)
theorem FT.flat{f:FK}{t:TypeId}(h:FT P f t):aW P t=some false:=by
 unfold aW;cases f with
 |b=>rw[show P.underlying t=_ from h]
 |s=>rw[show P.underlying t=_ from h]
 |i=>obtain⟨kd,h⟩:=h;rw[h]
theorem pC{f:Field}{fs:List Field}{i:Nat}{l:List FK}(h:kU P (f::fs) i=some l):∃x l',l=x::l'/\f.offset=i/\f.name≠ "_"/\kU P fs (i+1)=some l'/\FT P x f.type:=by
 simp only[kU] at h
 split at h
 ·rename_i hg
  rw[Ac] at hg
  split at h<;>first|(obtain⟨l',h1,rfl⟩:=mY h;exact⟨_,l',rfl,Aa hg.1,by simpa using hg.2,h1,by first|assumption|exact⟨_,by assumption⟩⟩)|cases h
 ·cases h
theorem a3R{f:FK}{t:TypeId}{x y:V}{ux uy:Value}{k:Bool->aa}(ht:FT P f t)(hx:VR J x ux)(hy:VR J y uy)(e:gA f x y k=.ok r) :
  ∃b,k b=.ok r/\(∀n,(Op.equalIn (n+1) t ux uy).run P w=.ok b w)/\(b=true->∀n,Instr.sameBits n uy ux=true):=by
 cases f with
 |b =>
  have hu:P.underlying t=some .bool:=ht;simp only[gA] at e;cases x<;>simp only at e<;>first|cases e|skip
  cases y<;>simp only at e<;>first|cases e|skip
  rename_i p q;rw[hx.od,hy.od];exact⟨_,e,λn=>by simp[Op.equalIn,run_underlying hu],λhb n=>by simp at hb;subst hb;cases n<;>simp[Instr.sameBits]⟩
 |s =>
  have hu:P.underlying t=some .string:=ht;simp only[gA] at e;cases x<;>simp only at e<;>first|cases e|skip
  cases y<;>simp only at e<;>first|cases e|skip
  obtain⟨p,rfl,rfl,rfl⟩:=hx.l_;obtain⟨q,rfl,rfl,rfl⟩:=hy.l_;rw[vc] at e;refine⟨_,e,λn=>by simp[Op.equalIn,run_underlying hu,bytes_beq],λhb n=>?_⟩;simp at hb;subst hb
  have:((⟨⟨p⟩⟩:ByteArray)==⟨⟨p⟩⟩)=true:=by rw[bytes_beq];simp
  cases n<;>exact this
 |i =>
  obtain⟨kd,hu⟩:=ht;simp only[gA] at e;cases x<;>simp only at e<;>first|cases e|skip
  cases y<;>simp only at e<;>first|cases e|skip
  obtain⟨hg,e1⟩:=bQ e;clear e;have I3:=uU hg;subst I3;have e:=e1;clear e1;rw[rX] at e;rw[hx.kj,hy.kj];exact⟨_,e,λn=>by simp[Op.equalIn,run_underlying hu],λhb n=>by simp at hb;subst hb;cases n<;>simp[Instr.sameBits]⟩
theorem a2D:∀{fs:List Field}{l:List FK}{i:Nat}{xs ys:List V}{us vs:List Value}{k:Bool->aa},kU P fs i=some l->a_ J xs (us.drop i)->a_ J ys (vs.drop i)->fL l xs ys k=.ok r ->
  ∃b,k b=.ok r/\(∀n,(Op.eqFields (n+1) ⟨us⟩ ⟨vs⟩ fs).run P w=.ok b w)/\(b=true->(us.drop i).length=(vs.drop i).length/\∀n,((vs.drop i).zip (us.drop i)).all (λ(x,y)=>Instr.sameBits n x y)=true)
 |[],l,i,xs,ys,us,vs,k,hf,hx,hy,e=>by
  simp[kU] at hf;subst hf;cases xs<;>cases ys<;>simp only[fL] at e<;>first|cases e|skip
  rw[hx.k_,hy.k_];exact⟨true,e,λn=>by simp[Op.eqFields],λ_=>⟨rfl,λn=>rfl⟩⟩
 |f::fs,l,i,xs,ys,us,vs,k,hf,hx,hy,e=>by
  obtain⟨x,l',rfl,ho,hn,N9,ht⟩:=pC hf;cases xs<;>cases ys<;>simp only[fL] at e<;>first|cases e|skip
  rename_i c cs d dd;obtain⟨u,RN,hu,hcu,CU⟩:=hx.k6;obtain⟨v,CL,hv,hdv,U6⟩:=hy.k6;obtain⟨b,e1,h1,h2⟩:=a3R (w:=w) ht hcu hdv e
  have a5K:us[i]?=some u:=by have:(us.drop i)[0]?=some u:=by rw[hu];rfl
                             simpa using this
  have a5L:vs[i]?=some v:=by have:(vs.drop i)[0]?=some v:=by rw[hv];rfl
                             simpa using this
  have pu:=sM (P:=P) (w:=w) (t:=f.type) ht.flat a5K;have pv:=sM (P:=P) (w:=w) (t:=f.type) ht.flat a5L;have a0E:us.drop (i+1)=RN:=by rw[<-List.drop_drop,hu];rfl
  have a0F:vs.drop (i+1)=CL:=by rw[<-List.drop_drop,hv];rfl
  cases b with
  |false =>
   exact⟨false,e1,λn=>by simp[Op.eqFields,hn,ho,pu,pv,h1],λh=>by cases h⟩
  |true =>
   obtain⟨b',g1,g2,g3⟩:=a2D (us:=us) (vs:=vs) N9 (by rw[a0E];exact CU) (by rw[a0F];exact U6) e1;refine⟨b',g1,λn=>by simp[Op.eqFields,hn,ho,pu,pv,h1,g2],λhb=>?_⟩;obtain⟨g4,g5⟩:=g3 hb;rw[a0E,a0F] at g4 g5;rw[hu,hv];exact⟨by simp[g4],λn=>by simp only[List.zip_cons_cons,Fh,h2 rfl n,Gk];exact g5 n⟩
theorem a1t{t:TypeId}{fs:Array Field}(h:P.underlying t=some (.struct fs)):P.fieldsOf t=fs:=by simp[Program.fieldsOf,h]
theorem a1z(H:HR P w0 J h nx w){s:KK}{t:TypeId}{x y:V}{ux uy:Value}{k:Bool->aa}(hk:KT P s t)(hx:VR J x ux)(hy:VR J y uy)(e:gK s h x y k=.ok r) :
  ∃b,k b=.ok r/\(Op.equal t ux uy).run P w=.ok b w/\(∀d b',P.underlying t=some d->Instr.sameNow d ux uy=some b'->b'=b)/\(b=true->Instr.sameBits 10000 uy ux=true):=by
 cases s with
 |str =>
  obtain⟨b,e1,h1,h2⟩:=a3R (P:=P) (w:=w) (f:=.s) (t:=t) hk hx hy (by simpa[gK,gA] using(by
   simp only[gK] at e;cases x<;>simp only at e<;>first|cases e|skip
   cases y<;>simp only at e<;>first|cases e|skip
   simpa only[gA] using e))
  refine⟨b,e1,bP hk h1,λd b' hd hs=>?_,λhb=>h2 hb 10000⟩;have hu:P.underlying t=some .string:=hk;rw[hu] at hd;obtain rfl:=Bp hd;have h3:=h1 0;simp only[gK] at e;cases x<;>simp only at e<;>first|cases e|skip
  cases y<;>simp only at e<;>first|cases e|skip
  obtain⟨p,rfl,rfl,rfl⟩:=hx.l_;obtain⟨q,rfl,rfl,rfl⟩:=hy.l_;simp[Op.equalIn,run_underlying hu] at h3;simp[Instr.sameNow] at hs;rw[<-h3,<-hs]
 |int =>
  obtain⟨kd,hu⟩:=hk;simp only[gK] at e;cases x<;>simp only at e<;>first|cases e|skip
  cases y<;>simp only at e<;>first|cases e|skip
  obtain⟨hg,e1⟩:=bQ e;clear e;have I3:=uU hg;subst I3;have e:=e1;clear e1;rw[rX] at e;rw[hx.kj,hy.kj];refine⟨_,e,bP hu λn=>by simp[Op.equalIn,run_underlying hu],λd b' hd hs=>?_,λhb=>by simp at hb;subst hb;simp[Instr.sameBits]⟩;rw[hu] at hd;obtain rfl:=Bp hd;simp[Instr.sameNow] at hs;exact hs.symm
 |ptr =>
  obtain⟨el,j,hu,hi,hs⟩:=hk;simp only[gK] at e;cases x<;>simp only at e<;>first|cases e|skip
  cases y<;>simp only at e<;>first|cases e|skip
  obtain⟨b1,N1,rfl,h1⟩:=hx.ns;obtain⟨b2,N2,rfl,h2⟩:=hy.ns;obtain⟨z,e,Ik,Ij⟩:=yq H h1 h2 e;refine⟨z,e,?_,λd b' hd hs=>?_,λhb=>?_⟩
  ·cases z with
   |true =>
    obtain⟨rfl,rfl⟩:=Ik rfl;exact bP hu λn=>by simp[Op.equalIn,run_underlying hu,sizeOf,typeInfo,hi,run_sameAddr_same]
   |false =>
    obtain⟨g1,⟨ca,ta,g2⟩,a5r,tb,g3⟩:=Ij rfl;exact bP hu λn=>by simp[Op.equalIn,run_underlying hu,sizeOf,typeInfo,hi,hs,run_sameAddr_other w g1 g2 g3]
  ·rw[hu] at hd;obtain rfl:=Bp hd
   simp[Instr.sameNow] at hs
  ·obtain⟨rfl,rfl⟩:=Ik hb
   simp[Instr.sameBits]
 |st l =>
  obtain⟨fs,hu,hf,A8⟩:=hk;simp only[gK] at e;cases x<;>simp only at e<;>first|cases e|skip
  cases y<;>simp only at e<;>first|cases e|skip
  obtain⟨us,rfl,Ow,_⟩:=hx.qh;obtain⟨vs,rfl,HE,_⟩:=hy.qh;obtain⟨b,e,h1,h2⟩:=a2D (P:=P) (w:=w) (us:=us) (vs:=vs) hf (by simpa using Ow) (by simpa using HE) e;refine⟨b,e,?_,λd b' hd hs=>?_,λhb=>?_⟩
  ·show(Op.equalIn (9998+1+1) t (.agg ⟨us⟩) (.agg ⟨vs⟩)).run P w=_
   rw[run_equalIn_struct w (9998+1) t _ _ (by rw[a1t hu];exact hu) A8,a1t hu];exact h1 9998
  ·rw[hu] at hd;obtain rfl:=Bp hd
   simp[Instr.sameNow] at hs
  ·obtain⟨g1,g2⟩:=h2 hb
   simp only[Gh] at g1 g2;show(vs.length==us.length&&_)=true;simp only[Ac,Cb];exact⟨g1.symm,g2 9999⟩
theorem wF(H:HR P w0 J h nx w){s:KK}{t:TypeId}{x:V}{ux:Value}(hk:KT P s t)(hx:VR J x ux):∀{es:List (V×V)}{AJ:List MapEntry}{i:Nat}{k:V->aa}{kn:aa},MR J es AJ->kR s h x es k kn=.ok r ->
  (kn=.ok r/\(Instr.findAsking t ux AJ i).run P w=.ok none w/\∀d r',P.underlying t=some d->Instr.findNow d ux AJ i=some r'->r'=none) \/
   ∃c u j,k c=.ok r/\VR J c u/\(Instr.findAsking t ux AJ i).run P w=.ok (some (i+j,u)) w/\∀d r',P.underlying t=some d->Instr.findNow d ux AJ i=some r'->r'=some (i+j,u)
 |[],[],i,k,kn,hm,e=>.inl ⟨e,by simp[Instr.findAsking],λd r' _ h=>by simp[Instr.findNow] at h;exact h.symm⟩
 |[],_::_,i,k,kn,hm,e=>by have:=hm.len;simp at this
 |_::_,[],i,k,kn,hm,e=>by have:=hm.len;simp at this
 |(y,v)::es,en::AJ,i,k,kn,hm,e=>by
  simp only[kR] at e;obtain⟨b,e,s1,s2,_⟩:=a1z H hk hx (hm.key 0 (y,v) en rfl rfl) e;have Ox:MR J es AJ:=⟨by have:=hm.len;simpa using this,λi p e h1 h2=>hm.key (i+1) p e (by simpa using h1) (by simpa using h2),λi p e h1 h2=>hm.val (i+1) p e (by simpa using h1) (by simpa using h2)⟩
  cases b with
  |true =>
   refine .inr ⟨v,en.val,0,e,hm.val 0 (y,v) en rfl rfl,by simp[Instr.findAsking,s1],λd r' hd h=>?_⟩;simp only[Instr.findNow] at h
   split at h
   ·simpa using h.symm
   ·rename_i hs;have:=s2 d _ hd hs;cases this
   ·cases h
  |false =>
   have now:∀d r',P.underlying t=some d->Instr.findNow d ux (en::AJ) i=some r'->Instr.findNow d ux AJ (i+1)=some r':=λd r' hd h=>by
    simp only[Instr.findNow] at h
    split at h
    ·rename_i hs;have:=s2 d _ hd hs;cases this
    ·exact h
    ·cases h
   rcases wF H hk hx (i:=i+1) Ox e with⟨f1,f2,f3⟩|⟨c,u,j,f1,f2,f3,f4⟩
   ·exact .inl ⟨f1,by simp[Instr.findAsking,s1,f2],λd r' hd h=>f3 d r' hd (now d r' hd h)⟩
   ·exact .inr ⟨c,u,j+1,f1,f2,by rw[show i+(j+1)=i+1+j by omega];simp[Instr.findAsking,s1,f3],λd r' hd h=>by rw[show i+(j+1)=i+1+j by omega];exact f4 d r' hd (now d r' hd h)⟩
theorem run_findKey{t:TypeId}{d:TypeDesc}{ux:Value}{AJ:List MapEntry}{o:Option (Nat×Value)}(hd:P.underlying t=some d)(h1:(Instr.findAsking t ux AJ 0).run P w=.ok o w)(h2:∀d r',P.underlying t=some d->Instr.findNow d ux AJ 0=some r'->r'=o) :
  (Instr.findKey t ux AJ).run P w=.ok o w:=by
 simp only[Instr.findKey,Sem.run_bind,run_underlying hd,Result.andThen_ok];split
 ·rename_i r' hr;rw[h2 d r' hd hr];rfl
 ·exact h1
def KF(s:KK)(x:V):Prop:=∀l,s=.st l->∃cs,x=.agg cs/\cs.length=l.length
theorem a1y{s:KK}{x:V}{k:aa}(e:jO s x k=.ok r):k=.ok r/\KF s x:=by
 cases s with
 |st l =>
  cases x<;>simp only[jO] at e<;>first|cases e|skip
  rw[cK,cK] at e;obtain⟨hg,e⟩:=bQ e;exact⟨e,λl' hl=>by cases hl;exact⟨_,rfl,Aa hg⟩⟩
 |_=>exact⟨e,λl hl=>by cases hl⟩
theorem a3G:∀{fs:List Field}{i:Nat}{l:List FK},kU P fs i=some l->l.length=fs.length
 |[],i,l,h=>by simp[kU] at h;subst h;rfl
 |f::fs,i,l,h=>by
  obtain⟨x,l',rfl,_,_,h1,_⟩:=pC h;simp[a3G h1]
theorem run_checkKey{s:KK}{t:TypeId}(hk:KT P s t){x:V}{u:Value}(hx:VR J x u)(hs:KF s x)(b:Bool)(n:Nat):(Instr.checkKey b (n+2) t u).run P w=.ok () w:=by
 cases s with
 |str=>have hd:P.underlying t=some .string:=hk;simp[Instr.checkKey,run_underlying hd]
 |int=>obtain⟨kd,hd⟩:=hk;simp[Instr.checkKey,run_underlying hd]
 |ptr=>obtain⟨e,j,hd,_⟩:=hk;simp[Instr.checkKey,run_underlying hd]
 |st l =>
  obtain⟨fs,hd,hf,_⟩:=hk;obtain⟨cs,rfl,hl⟩:=hs l rfl;obtain⟨vs,rfl,HE,_⟩:=hx.qh;have hlen:vs.length=fs.toList.length:=by rw[<-HE.1,hl,a3G hf]
  have one:∀(f:Field)(i:Nat) x,FT P x f.type->i<vs.length->f.offset=i->∃u,(part f.type ⟨vs⟩ f.offset).run P w=.ok u w/\(Instr.checkKey b (n+1) f.type u).run P w=.ok () w:=λf i x N8 hi ho=>by
   subst ho;refine⟨vs[f.offset],sM N8.flat (by simp[hi]),?_⟩;cases x with
   |b=>have hd:P.underlying f.type=some .bool:=N8;simp[Instr.checkKey,run_underlying hd]
   |s=>have hd:P.underlying f.type=some .string:=N8;simp[Instr.checkKey,run_underlying hd]
   |i=>obtain⟨kd,hd⟩:=N8;simp[Instr.checkKey,run_underlying hd]
  obtain⟨m,hm⟩:∃m,m=n+1:=⟨_,rfl⟩
  rw[show n+2=m+1 by omega];rw[<-hm] at one;simp only[Instr.checkKey,Sem.run_bind,run_underlying hd,Result.andThen_ok];rw[<-Array.forIn_toList]
  have main:∀(gs:List Field)(i:Nat)(l:List FK),kU P gs i=some l->i+gs.length=vs.length ->
    (forIn gs PUnit.unit λf r=>if f.name≠ "_" then do Instr.checkKey b m f.type (<-part f.type ⟨vs⟩ f.offset);pure (ForInStep.yield PUnit.unit) else pure (ForInStep.yield PUnit.unit):Sem PUnit).run P w=.ok PUnit.unit w:=by
   intro gs;induction gs with
   |nil=>intro i l _ _;simp
   |cons f gs ih =>
    intro i l hf hi;obtain⟨x,l',rfl,ho,hn,N9,N8⟩:=pC hf;simp only[Ak] at hi;obtain⟨u,h1,h2⟩:=one f i x N8 (by omega) ho;simp only[List.forIn_cons,Br hn,Sem.run_bind,h1,h2,Result.andThen_ok,Sem.run_pure];exact ih (i+1) l' N9 (by omega)
  have:=main fs.toList 0 l hf (by omega)
  simp at this ⊢;simp[this]
theorem HR.map(H:HR P w0 J h nx w){o:Q}{b N:Nat}{es:List (V×V)}(ho:J o=some (b,N))(hm:h.ob o=.map es\/h.ob o=.mc es):∃(AJ:List MapEntry)(cl:Nat),w.heap[b]?=some (.map ⟨AJ⟩ cl)/\MR J es AJ/\w0.heap.size<=b:=by
 have:=H.obj o b N ho
 rcases hm with hm|hm
 ·rw[hm] at this
  cases this with|map _ AJ cl _ _ hb hw hm hc=>exact⟨AJ,cl,hw,hm,hb⟩
 ·rw[hm] at this
  cases this with|mc _ AJ cl _ _ hb hw hm=>exact⟨AJ,cl,hw,hm,hb⟩
theorem VR.vk{a b:V}{x y:Value}(h1:VR J a x)(h2:VR J b y):VR J (.aj [a,b]) (.tuple #[x,y]):=by
 have:=a_.cons h1 (a_.cons h2 a_.nil)
 exact .aj _ _ this.1 this.2
theorem aWV(H:HR P w0 J h nx w){t el:TypeId}{s:KK}{ok:Bool}{z:V}{m key:Operand}(ht:ud P t=some (s,el))(hz:zeroV P el=some z)(hT:XR J tm tmps (Op.operands (.lookup t m key ok)).toList)(e:pK (.lk s ok z (aE P m) (aE P key)) tm h k=.ok r) :
  ∃v,k v=.ok r/\PG P w J tmps ds ⟨dst,.lookup t m key ok,ty,pos,AK,BE⟩ v:=by
 simp only[pK] at e;obtain⟨c,e1,hc⟩:=bd (ds:=ds) (o:=⟨dst,.lookup t m key ok,ty,pos,AK,BE⟩) H hT (by simp[Op.operands]) e;obtain⟨x,e2,hx⟩:=bd (ds:=ds) (o:=⟨dst,.lookup t m key ok,ty,pos,AK,BE⟩) H hT (by simp[Op.operands]) e1;obtain⟨e2,UR⟩:=a1y e2;obtain⟨kt,hu,MB⟩:=a3W ht;obtain⟨d,hd⟩:=MB.desc;obtain⟨zv,Ik,Ij,_⟩:=yS (J:=J) hz;have ID:=aS (P:=P) (w:=w) Ik;have HV:=λb=>run_checkKey (w:=w) MB hx UR b 9998
 have A9:∀(es:List MapEntry)(o:Option (Nat×Value)),(match ev tmps ds m with
   |.map none=>es=[]
   |.map (some rr)=>∃cl,w.heap[rr]?=some (.map ⟨es⟩ cl)
   |_=>False)->(Instr.findKey kt (ev tmps ds key) es).run P w=.ok o w->(execOp (ev tmps ds) ⟨dst,.lookup t m key ok,ty,pos,AK,BE⟩).run P w=.ok (.value (if ok then .tuple #[(o.map (·.2)).getD zv,.bool o.isSome] else(o.map (·.2)).getD zv)) w:=λes o D8 hf=>by
  generalize hg:ev tmps ds m=a8F at D8
  split at D8
  ·subst D8
   simp only[execOp,Instr.lookup,hg,Sem.run_bind,run_underlying hu,Result.andThen_ok];cases o<;>cases ok<;>simp[HV,hf,ID]
  ·obtain⟨cl,D8⟩:=D8
   simp only[execOp,Instr.lookup,hg,Sem.run_bind,run_underlying hu,Result.andThen_ok];cases o<;>cases ok<;>simp[mf (P:=P) D8 (by simp),HV,hf,ID]
  ·exact D8.elim
 cases c<;>simp only at e2<;>first|cases e2|skip
 ·have hm:=hc.a0V
  have:=A9 [] none (by rw[hm]) (run_findKey hd (by simp[Instr.findAsking]) (λd r' _ h=>by simp[Instr.findNow] at h;exact h.symm))
  cases ok with
  |true=>exact⟨_,e2,_,by simpa using this,Ij.vk (.bool _)⟩
  |false=>exact⟨_,e2,_,by simpa using this,Ij⟩
 ·rw[bW] at e2
  obtain⟨es,D8,e3⟩:=uX e2;obtain⟨b,N,hm,hb⟩:=hc.vF;obtain⟨AJ,cl,g1,g2,_⟩:=H.map hb D8;have Ir:=λo hf=>A9 AJ o (by rw[hm];exact⟨_,g1⟩) hf
  cases ok with
  |true =>
   rcases wF (i:=0) H MB hx g2 e3 with⟨f1,f2,f3⟩|⟨c,u,j,f1,f2,f3,f4⟩
   ·exact⟨_,f1,_,by simpa using Ir _ (run_findKey hd f2 f3),Ij.vk (.bool _)⟩
   ·exact⟨_,f1,_,by simpa using Ir _ (run_findKey hd f3 f4),f2.vk (.bool _)⟩
  |false =>
   rcases wF (i:=0) H MB hx g2 e3 with⟨f1,f2,f3⟩|⟨c,u,j,f1,f2,f3,f4⟩
   ·exact⟨_,f1,_,by simpa using Ir _ (run_findKey hd f2 f3),Ij⟩
   ·exact⟨_,f1,_,by simpa using Ir _ (run_findKey hd f3 f4),f2⟩
theorem Xh(H:HR P w0 J h nx w){x:Operand}{t:TypeId}{b:PB}{a:Array Operand}{ts:Array TypeId}(ha:a.toList=[x])(KX:ts.toList=[t])(hb:(P.underlying t=some .string/\b=.lenS (aE P x))\/(∃el,P.underlying t=some (.slice el)/\b=.lenL (aE P x))\/(∃kt el,P.underlying t=some (.map kt el)/\b=.lenM (aE P x)))
  (hT:XR J tm tmps (Op.operands (.call ⟨.builtin .len,a,ts⟩)).toList) (e:pK b tm h k=.ok r):∃v,k v=.ok r/\PG P w J tmps ds ⟨dst,.call ⟨.builtin .len,a,ts⟩,ty,pos,AK,BE⟩ v:=by
 obtain⟨a⟩:=a;obtain⟨ts⟩:=ts;simp only at ha KX;subst ha;subst KX
 have hex:∀u,(Builtin.len_ #[t] ty #[ev tmps ds x]).run P w=.ok u w->(execOp (ev tmps ds) ⟨dst,.call ⟨.builtin .len,#[x],#[t]⟩,ty,pos,AK,BE⟩).run P w=.ok (.value u) w:=λu hu=>by
  simp[execOp,resolve,invoke,builtin];simp[ev] at hu;simp[hu]
 rcases hb with⟨hu,rfl⟩|⟨el,hu,rfl⟩|⟨kt,el,hu,rfl⟩
 ·simp only[pK] at e
  obtain⟨c,e1,hc⟩:=bd (ds:=ds) (o:=⟨dst,.call ⟨.builtin .len,#[x],#[t]⟩,ty,pos,AK,BE⟩) H hT (by simp[Op.operands,Call.operands]) e;obtain⟨l,n,ho,e2⟩:=rR e1;subst ho;obtain⟨s,hv,hl,hp⟩:=hc.l_;refine⟨_,e2,_,hex _ (by simp[Builtin.len_,run_underlying hu,hv,goInt];rfl),?_⟩
  have:(⟨⟨s⟩⟩:ByteArray).size=l:=hl
  rw[this];exact .int _ _
 ·simp only[pK] at e
  obtain⟨c,e1,hc⟩:=bd (ds:=ds) (o:=⟨dst,.call ⟨.builtin .len,#[x],#[t]⟩,ty,pos,AK,BE⟩) H hT (by simp[Op.operands,Call.operands]) e;obtain⟨a,l,cap,hv,e2,_⟩:=a3A hc e1;exact⟨_,e2,.int .i64 l,hex _ (by simp[Builtin.len_,run_underlying hu,hv,goInt]),.int _ _⟩
 ·simp only[pK] at e
  obtain⟨c,e1,hc⟩:=bd (ds:=ds) (o:=⟨dst,.call ⟨.builtin .len,#[x],#[t]⟩,ty,pos,AK,BE⟩) H hT (by simp[Op.operands,Call.operands]) e;cases c<;>simp only at e1<;>first|cases e1|skip
  ·have hv:ev tmps ds x=.map none:=hc.a0V
   exact⟨_,e1,.int .i64 0,hex _ (by simp[Builtin.len_,run_underlying hu,hv,goInt]),.int _ _⟩
  ·rw[bW] at e1
   obtain⟨es,D8,e2⟩:=uX e1;rw[cK] at e2;obtain⟨b,N,hv,hb⟩:=hc.vF;obtain⟨AJ,cl,g1,g2,_⟩:=H.map hb D8;refine⟨_,e2,.int .i64 AJ.length,hex _ (by simp[Builtin.len_,run_underlying hu,hv,mf (P:=P) g1 (by simp),goInt]),?_⟩;rw[g2.len];exact .int _ _
theorem aS7(H:HR P w0 J h nx w){x y:Operand}{a:Array Operand}{ts:Array TypeId}(ha:a.toList=[x,y])(hT:XR J tm tmps (Op.operands (.call ⟨.builtin .max,a,ts⟩)).toList)(e:pK (.max (aE P x) (aE P y)) tm h k=.ok r) :
  ∃v,k v=.ok r/\PG P w J tmps ds ⟨dst,.call ⟨.builtin .max,a,ts⟩,ty,pos,AK,BE⟩ v:=by
 obtain⟨a⟩:=a;simp only at ha;subst ha;simp only[pK] at e;obtain⟨c,e1,hc⟩:=bd (ds:=ds) (o:=⟨dst,.call ⟨.builtin .max,#[x,y],ts⟩,ty,pos,AK,BE⟩) H hT (by simp[Op.operands,Call.operands]) e;obtain⟨d,e2,hd⟩:=bd (ds:=ds) (o:=⟨dst,.call ⟨.builtin .max,#[x,y],ts⟩,ty,pos,AK,BE⟩) H hT (by simp[Op.operands,Call.operands]) e1;obtain⟨ka,n,hn,e3⟩:=rh e2;obtain⟨kb,m,hm,e4⟩:=rh e3;subst hn;subst hm;have h1:=hc.kj;have h2:=hd.kj;rw[wV] at e4
 have hex:(execOp (ev tmps ds) ⟨dst,.call ⟨.builtin .max,#[x,y],ts⟩,ty,pos,AK,BE⟩).run P w=.ok (.value (.int ka (if m>n then m else n))) w:=by
  simp[execOp,resolve,invoke,builtin];simp[Builtin.max_,h1,h2,Builtin.max2]
 split at e4
 ·rename_i hb
  simp at hb;rw[Bf (by omega)] at hex;exact⟨_,e4,_,hex,.int _ _⟩
 ·rename_i hb
  simp at hb;rw[Br (by omega)] at hex;exact⟨_,e4,_,hex,.int _ _⟩
end
section
open Go.AM (hV overwrite run_underlying run_sizeOf dG aS aU aW bC aQ AD bP cH bytes_beq mf qj)
variable {P:Program}{w0:cL}{w:World}{J:ak}{h:T O}{nx:Q}{tm:T V}{tmps:Array Value}{ds:List Deferred}{k:V->aa}{r v:V}
section more
variable {dst:Option Nat}{ty:TypeId}{pos:String}{AK:Array Edge}{BE:Option (Nat×Bool)}
theorem aWW(H:HR P w0 J h nx w){t xt:TypeId}{Hc:Bool}{z:V}{x:Operand}{d:TypeDesc}(hu:P.underlying t=some d)(N6:∀ms,d≠.interface ms)(hz:zeroV P t=some z)(hT:XR J tm tmps (Op.operands (.typeAssert x xt t Hc)).toList)
  (e:pK (.ta Hc t z (aE P x)) tm h k=.ok r):∃v,k v=.ok r/\PG P w J tmps ds ⟨dst,.typeAssert x xt t Hc,ty,pos,AK,BE⟩ v:=by
 simp only[pK] at e;obtain⟨c,e1,hc⟩:=bd (ds:=ds) (o:=⟨dst,.typeAssert x xt t Hc,ty,pos,AK,BE⟩) H hT (by simp[Op.operands]) e;obtain⟨zv,Ik,Ij,_⟩:=yS (J:=J) hz;have ID:=aS (P:=P) (w:=w) Ik;generalize hg:ev tmps ds x=u at hc
 have A9:∀u',(Instr.typeAssert u xt t Hc).run P w=.ok u' w->(execOp (ev tmps ds) ⟨dst,.typeAssert x xt t Hc,ty,pos,AK,BE⟩).run P w=.ok (.value u') w:=λu' h'=>by
  simp[execOp,hg,h']
 have MA:∀{y:V},yD Hc z k=.ok r->VR J y u->(u=.nilIface\/∃t' v',u=.iface t' v'/\t'≠t)->∃v,k v=.ok r/\PG P w J tmps ds ⟨dst,.typeAssert x xt t Hc,ty,pos,AK,BE⟩ v:=λem _ Hs=>by
  cases Hc with
  |false=>cases em
  |true =>
   refine⟨_,em,.tuple #[zv,.bool false],A9 _ ?_,Ij.vk (.bool _)⟩;rcases Hs with rfl|⟨t',v',rfl,BA⟩
   ·cases d<;>first|exact absurd rfl (N6 _)|simp[Instr.typeAssert,run_underlying hu,ID]
   ·cases d<;>first|exact absurd rfl (N6 _)|simp[Instr.typeAssert,run_underlying hu,ID,BA]
 cases c<;>simp only[Oc] at e1<;>first|cases e1|skip
 ·have hun:u=.nilIface:=by cases hc;rfl
  exact MA (y:=.lz) e1 hc (.inl hun)
 ·rename_i t' u'
  obtain⟨v',hv,HF⟩:∃v',u=.iface t' v'/\VR J u' v':=by cases hc with|kh _ _ v' HF=>exact⟨v',rfl,HF⟩
  split at e1
  ·rename_i hb
   have ht:=Aa hb;subst ht;subst hv;cases Hc with
   |true=>exact⟨_,e1,.tuple #[v',.bool true],A9 _ (by cases d<;>first|exact absurd rfl (N6 _)|simp[Instr.typeAssert,run_underlying hu]),HF.vk (.bool _)⟩
   |false=>exact⟨_,e1,v',A9 _ (by cases d<;>first|exact absurd rfl (N6 _)|simp[Instr.typeAssert,run_underlying hu]),HF⟩
  ·rename_i hb
   exact MA (y:=.kh t' u') e1 hc (.inr ⟨t',v',hv,λe0=>by rw[e0,Ci] at hb;cases hb⟩)
end more
def aR(x:aa)(k:V->aa):aa :=
 match x with
 |.ok v=>k v
 |e=>e
section nat
variable (k)
theorem zP(v:V):aR (.ok v) k=k v:=rfl
theorem cR(n:Nat):aR (.bad n) k=.bad n:=rfl
theorem pZ(x:X)(tm:T V)(g:V->aa):aR (xK x tm g) k=xK x tm λv=>aR (g v) k:=by
 cases x<;>simp only[xK,dI,cR]
theorem gH(b:Bool)(n:Nat)(g:aa):aR (gd b n g) k=gd b n (aR g k):=by cases b<;>rfl
theorem Vv(v:V)(g:Bool->aa):aR (KP v g) k=KP v λx=>aR (g x) k:=by cases v<;>rfl
theorem Zz(v:V)(g:IntKind->Int->aa):aR (NP v g) k=NP v λx y=>aR (g x y) k:=by cases v<;>rfl
theorem WS(v:V)(g:Nat->aa):aR (Kh v g) k=Kh v λx=>aR (g x) k:=by
 cases v with
 |int kd n=>cases n<;>rfl
 |_=>rfl
theorem aVI(v:V)(g:Q->Nat->aa):aR (Kg v g) k=Kg v λx y=>aR (g x y) k:=by cases v<;>rfl
theorem aVJ(v:V)(g:Nat->Nat->aa):aR (KO v g) k=KO v λx y=>aR (g x y) k:=by cases v<;>rfl
theorem aVH(v:V)(g:List V->aa):aR (Nt v g) k=Nt v λx=>aR (g x) k:=by cases v<;>rfl
theorem yM(o:O)(g:Nat->T V->aa):aR (fq o g) k=fq o λx y=>aR (g x y) k:=by cases o<;>rfl
theorem yG(o:O)(g:List (V×V)->aa):aR (wZ o g) k=wZ o λx=>aR (g x) k:=by cases o<;>rfl
theorem a24(kd:IntKind)(n:Int)(g:Int->aa):aR (iV kd n g) k=iV kd n λx=>aR (g x) k:=by
 cases n with
 |ofNat m =>
  simp only[iV,aF];split
  ·rfl
  ·simp only[fS]
 |negSucc m=>simp only[iV,aF,fS]
theorem Wo(b:Bool)(g:V->aa):aR (bK b g) k=bK b λx=>aR (g x) k:=by cases b<;>rfl
theorem aLy(op:BinOp)(a b:V)(g:V->aa):aR (ry op a b g) k=ry op a b λx=>aR (g x) k:=by
 cases a<;>simp only[ry,cR]
 ·cases b<;>simp only[cR,gH]
  congr 1;cases op<;>simp only[qA,a24,Wo,gH,fS,cR]
 ·cases b<;>simp only[cR]
  cases op<;>simp only[OJ,Wo,gH,aF,cR]
theorem yE(h:T O)(o:Q)(x:Nat)(o':Q)(y:Nat)(g:Bool->aa):aR (JA h o x o' y g) k=JA h o x o' y λb=>aR (g b) k:=by
 unfold JA;split
 ·split
  ·rfl
  ·simp only[bW,gH]
 ·simp only[bW,gH]
theorem aRK(m:oz)(h:T O)(a b:V)(g:Bool->aa):aR (Gv m h a b g) k=Gv m h a b λx=>aR (g x) k:=by
 cases m<;>simp only[Gv,Vv]
 ·cases a<;>simp only[cR]
  ·cases b<;>simp only[cR]
  ·cases b<;>simp only[cR,yE]
 all_goals cases a<;>simp only[cR]
 rename_i x;cases x<;>rfl
theorem aRJ(v:V)(g:List V->aa):aR (Jd v g) k=Jd v λx=>aR (g x) k:=by cases v<;>rfl
theorem cj:∀(l:List V)(off:Nat)(new:List V)(g:List V->aa),aR (oU l off new g) k=oU l off new λx=>aR (g x) k
 |[],0,[],g=>rfl
 |[],0,_::_,g=>rfl
 |[],_+1,_,g=>rfl
 |x::l,0,[],g=>rfl
 |x::l,0,v::vs,g=>by simp only[oU,cj l 0 vs]
 |x::l,off+1,new,g=>by simp only[oU,cj l off new]
theorem yB(tm:T V):∀(ps:List (Nat×Nat×X))(l:List V)(g:List V->aa),aR (cr tm ps l g) k=cr tm ps l λx=>aR (g x) k
 |[],l,g=>rfl
 |(off,n,x)::ps,l,g=>by simp only[cr,pZ,aRJ,cK,gH,cj,yB tm ps]
theorem aRN(h:T O)(o:Q)(off:Nat)(g:V->aa):aR (Jn h o off g) k=Jn h o off λx=>aR (g x) k:=by
 simp only[Jn,bW,yM,gH,kF,dI]
theorem aLC(h:T O)(o:Q)(off n:Nat)(g:List V->aa):aR (mW h o off n g) k=mW h o off n λx=>aR (g x) k:=by
 simp only[mW,bW,yM,gH,mT]
theorem yI{α:Type}(l:List α)(n:Nat)(g:α->aa):aR (ui l n g) k=ui l n λx=>aR (g x) k:=by
 simp only[a30];cases l[n]?<;>rfl
theorem a23:∀(n:Nat)(l:List V)(g:List V->aa),aR (oW n l g) k=oW n l λx=>aR (g x) k
 |0,l,g=>rfl
 |n+1,[],g=>rfl
 |n+1,v::l,g=>by simp only[oW,a23 n l]
theorem a22:∀(off n:Nat)(l:List V)(g:List V->aa),aR (uA off n l g) k=uA off n l λx=>aR (g x) k
 |0,n,l,g=>by simp only[uA,a23]
 |off+1,n,[],g=>rfl
 |off+1,n,v::l,g=>by simp only[uA,a22 off n l]
theorem aRL(agg:Bool)(off n:Nat)(l:List V)(g:V->aa):aR (NJ agg off n l g) k=NJ agg off n l λx=>aR (g x) k:=by
 cases agg<;>simp only[NJ,yI,a22]
theorem aF4(sz:Nat)(v:V)(i:Nat)(g:V->aa):aR (v7 sz v i g) k=v7 sz v i λx=>aR (g x) k:=by
 cases v<;>simp only[v7,cR,gH,aF]
 rename_i x;cases x<;>simp only[xz,cR,gH,aF]
theorem yF(v:V)(g:Nat->aa):aR (tw v g) k=tw v λx=>aR (g x) k:=by
 cases v<;>first|rfl|skip
 rename_i x;cases x<;>rfl
theorem yL(x:Option X)(tm:T V)(d:Nat)(g:Nat->aa):aR (xU x tm d g) k=xU x tm d λn=>aR (g n) k:=by
 cases x<;>simp only[xU,pZ,WS]
theorem aF3(x:RK)(lo hi:Nat)(mx:Option Nat)(g:V->aa):aR (OE x lo hi mx g) k=OE x lo hi mx λx=>aR (g x) k:=by
 cases x<;>cases mx<;>simp only[OE,cR,gH]
 congr 1;split<;>rfl
theorem aLz(sz:Nat)(v:V)(lo hi:Nat)(mx:Option Nat)(g:V->aa):aR (yZ sz v lo hi mx g) k=yZ sz v lo hi mx λx=>aR (g x) k:=by
 cases v<;>cases mx<;>simp only[yZ,cR,gH,aF,aF3]
 ·congr 1;split<;>rfl
 ·congr 1;split<;>rfl
 ·congr 1;split
  ·rfl
  ·split<;>rfl
 ·congr 1;split<;>rfl
theorem aKf(o:O)(g:Nat->T V->aa):aR (NW o g) k=NW o λn t=>aR (g n t) k:=by cases o<;>rfl
theorem aLB(h:T O)(x:RK)(g:V->aa):aR (Li h x g) k=Li h x λx=>aR (g x) k:=by
 cases x<;>simp only[Li,cR,bW,aKf,gH,kF,dI]
theorem aF5(h:T O)(x:RK)(n:Nat)(g:List V->aa):aR (tv h x n g) k=tv h x n λx=>aR (g x) k:=by
 cases x<;>simp only[tv,eo,cR,bW,aKf,gH,mT]
theorem aLA(x:RK)(off:Nat)(g:V->aa):aR (Nl x off g) k=Nl x off λx=>aR (g x) k:=by
 cases x<;>simp only[Nl,cR,aF]
theorem aF2(v:V)(g:Q->Nat->aa)(a0N:RK->aa):aR (vG v g a0N) k=vG v (λo a=>aR (g o a) k) λx=>aR (a0N x) k:=by cases v<;>rfl
theorem aAE(f:FK)(x y:V)(g:Bool->aa):aR (gA f x y g) k=gA f x y λb=>aR (g b) k:=by
 cases f<;>cases x<;>simp only[gA,cR]<;>cases y<;>simp only[cR,gH]
theorem a2F:∀(fs:List FK)(xs ys:List V)(g:Bool->aa),aR (fL fs xs ys g) k=fL fs xs ys λb=>aR (g b) k
 |[],[],[],g=>rfl
 |[],[],_::_,g=>rfl
 |[],_::_,_,g=>rfl
 |_::_,[],_,g=>rfl
 |_::_,_::_,[],g=>rfl
 |f::fs,x::xs,y::ys,g=>by
  simp only[fL,aAE];congr 1;funext b;cases b
  ·rfl
  ·exact a2F fs xs ys g
theorem aCg(s:KK)(h:T O)(x y:V)(g:Bool->aa):aR (gK s h x y g) k=gK s h x y λb=>aR (g b) k:=by
 cases s<;>cases x<;>simp only[gK,cR]<;>cases y<;>simp only[cR,gH,yE,a2F]
theorem a21(s:KK)(h:T O)(x:V):∀(es:List (V×V))(g:V->aa)(kn:aa),aR (kR s h x es g kn) k=kR s h x es (λv=>aR (g v) k) (aR kn k)
 |[],g,kn=>rfl
 |(y,v)::es,g,kn=>by
  simp only[kR,aCg];congr 1;funext b;cases b
  ·exact a21 s h x es g kn
  ·rfl
theorem aCf(s:KK)(x:V)(g:aa):aR (jO s x g) k=jO s x (aR g k):=by
 cases s<;>simp only[jO]
 cases x<;>simp only[cR,cK,gH]
theorem aKg(tm:T V):∀(xs:List X)(g:List V->aa),aR (Hy xs tm g) k=Hy xs tm λx=>aR (g x) k
 |[],g=>rfl
 |x::xs,g=>by
  have h1:∀g,Hy (x::xs) tm g=xK x tm λv=>Hy xs tm λl=>g (v::l):=λg=>rfl
  rw[h1,h1,pZ];congr 1;funext v;rw[aKg tm xs]
end nat
theorem uz(b:PB)(tm:T V)(h:T O)(k:V->aa):pK b tm h k=aR (pK b tm h .ok) k:=by
 cases b
 case pick c x y =>
  simp only[pK,pZ,Vv];congr 1;funext v;congr 1;funext t;cases t<;>simp only[pZ,zP]
 case nck x =>
  simp only[pK,pZ];congr 1;funext v;cases v<;>first|rfl|skip
  rename_i x;cases x<;>rfl
 case slL sz x lo hi mx =>
  simp only[pK,pZ,yF,yL];congr 1;funext v;congr 1;funext l;congr 1;funext a;congr 1;funext b;cases mx<;>simp only[aLz,pZ,WS,zP]
 case lk s ok z m key =>
  simp only[pK,pZ];congr 1;funext m;congr 1;funext x;rw[aCf];congr 1;cases m<;>simp only[cR]
  ·cases ok<;>rfl
  ·simp only[bW,yG]
   congr 1;funext es;cases ok<;>simp only[a21,zP]
 case lenM x =>
  simp only[pK,pZ];congr 1;funext v;cases v<;>simp only[cR,zP,bW,yG,cK]
 case ta ok t z x =>
  simp only[pK,pZ];congr 1;funext v;cases v<;>simp only[Oc,yD,cR]
  ·cases ok<;>rfl
  ·rename_i t' u
   cases Nat.beq t' t<;>cases ok<;>rfl
 case max x y =>
  simp only[pK,pZ,Zz];congr 1;funext a;congr 1;funext b;congr 1;funext ka n;congr 1;funext kb m;cases LB m n<;>rfl
 case ex i x =>
  simp only[pK,pZ];congr 1;funext v;cases v<;>simp only[cR,yI,zP]
 all_goals simp only[pK,pZ,gH,Vv,Zz,WS,aVI,aVJ,aVH,a24,Wo,aLy,aRK,yB,aRN,aLC,aF2,aLB,aF5,aLA,aRL,aF4,yF,yL,aKg,zP,cR,aF]
theorem qS{b:PB}(e:pK b tm h k=.ok r):∃v,pK b tm h .ok=.ok v/\k v=.ok r:=by
 rw[uz] at e;cases hp:pK b tm h .ok with
 |ok v=>rw[hp] at e;exact⟨v,rfl,e⟩
 |bad n=>rw[hp] at e;cases e
 |fuel=>rw[hp] at e;cases e
theorem a36{b:PB}(hb:Ra b=false)(h h':T O):pK b tm h k=pK b tm h' k:=by
 cases b<;>first|rfl|cases hb
theorem kE{o:Option PB}{b:PB}(hb:IA o=.p b):o=some b\/b=.bad:=by
 cases o with
 |none=>simp only[IA] at hb;cases hb;exact .inr rfl
 |some p=>simp only[IA] at hb;cases hb;exact .inl rfl
theorem W5{o:Option AB}{b:PB}(hb:Ky o=.p b):b=.bad:=by
 cases o<;>simp only[Ky] at hb<;>cases hb;rfl
theorem W2{o:Option WB}{b:PB}(hb:Lh o=.p b):b=.bad:=by
 cases o<;>simp only[Lh] at hb<;>cases hb;rfl
theorem zC(H:HR P w0 J h nx w){o:Oper}{b:PB}(hb:bU P o=.p b)(hT:XR J tm tmps o.op.operands.toList)(e:pK b tm h k=.ok r):∃v,k v=.ok r/\PG P w J tmps ds o v:=by
 have bad:b=.bad->∃v,k v=.ok r/\PG P w J tmps ds o v:=λhb=>by subst hb;cases e
 obtain⟨dst,op,ty,pos,AK,BE⟩:=o;cases op<;>simp only[bU] at hb
 case move x=>cases hb;exact aOO H hT e
 case assign x=>cases hb;exact aEG H hT e
 case pick c x y=>cases hb;exact aOP H hT e
 case alloc t=>exact bad (W5 hb)
 case box t x=>exact bad (W5 hb)
 case build t parts =>
  rcases kE hb with hb|hb
  ·obtain⟨z,hz,hb⟩:=dQ hb
   obtain⟨ps,hp,hb⟩:=mY hb;subst hb;exact aS0 H hz hp hT e
  ·exact bad hb
 case buildSlice t len parts=>exact bad (W5 hb)
 case load t a =>
  rcases kE hb with hb|hb
  ·obtain⟨g,hg,hb⟩:=dQ hb
   obtain⟨s,hs,hb⟩:=dQ hb;cases g with
   |true=>simp at hb;subst hb;exact aS6 H hg hs hT e
   |false =>
    simp only at hb
    split at hb
    ·simp at hb;subst hb;exact aS5 H hg hT e
    ·cases hb
  ·exact bad hb
 case store t a x=>exact bad (W2 hb)
 case nilCheck x=>cases hb;exact aTa H hT e
 case binOp op t x y yt=>cases hb;exact aH2 H hT e
 case unOp op t x =>
  cases op<;>simp only at hb<;>cases hb<;>first|exact bad rfl|exact aOQ H hT e
 case convert s d x =>
  split at hb
  ·cases hb;rename_i hs hd;exact aS1 H hs hd hT e
  ·split at hb
   ·cases hb
   ·cases hb;exact bad rfl
  ·cases hb;exact bad rfl
 case makeInterface t x =>
  split at hb
  ·cases hb;exact bad rfl
  ·cases hb;rename_i d hd hu;exact aS9 H hu (λm hm=>hd m hm) hT e
  ·cases hb;exact bad rfl
 case makeFunc fn first caps =>
  split at hb
  ·cases hb;exact aS8 H hT e
  ·cases hb;exact bad rfl
 case makeMap t r =>
  split at hb
  ·cases hb
  ·cases hb;exact bad rfl
 case slice t x lo hi mx =>
  split at hb
  ·cases hb;rename_i hu;exact aTc H hu hT e
  ·rename_i el _ hu
   split at hb
   ·cases hb;exact bad rfl
   ·rename_i UM
    rcases kE hb with hb|hb
    ·obtain⟨s,hs,hb⟩:=mY hb
     subst hb;exact aTb H hu hs UM hT e
    ·exact bad hb
  ·cases hb;exact bad rfl
 case fieldAddr t x f =>
  rcases kE hb with hb|hb
  ·obtain⟨ot,hf,hb⟩:=dQ hb
   obtain⟨s,hs,hb⟩:=dQ hb
   split at hb
   ·rename_i h0
    simp at hb;subst hb;exact aWS H hf hs h0 hT e
   ·cases hb
  ·exact bad hb
 case field t x f =>
  rcases kE hb with hb|hb
  ·obtain⟨ot,hf,hb⟩:=dQ hb
   obtain⟨s,hs,hb⟩:=dQ hb;obtain⟨g,hg,hb⟩:=mY hb;subst hb;exact aWT H hf hs hg hT e
  ·exact bad hb
 case indexAddr t x i =>
  split at hb
  ·rename_i el hu
   rcases kE hb with hb|hb
   ·obtain⟨s,hs,hb⟩:=mY hb
    subst hb;exact aWU H hu hs hT e
   ·exact bad hb
  ·rename_i len el hu
   rcases kE hb with hb|hb
   ·obtain⟨s,hs,hb⟩:=mY hb
    subst hb;exact aS2 H hu hs hT e
   ·exact bad hb
  ·cases hb;exact bad rfl
 case index t x i =>
  split at hb
  ·cases hb;rename_i hu;exact aS4 H hu hT e
  ·rename_i len el hu
   rcases kE hb with hb|hb
   ·obtain⟨s,hs,hb⟩:=dQ hb
    obtain⟨g,hg,hb⟩:=mY hb;subst hb;exact aS3 H hu hs hg hT e
   ·exact bad hb
  ·cases hb;exact bad rfl
 case lookup t m key ok =>
  split at hb
  ·rename_i s el ht
   rcases kE hb with hb|hb
   ·obtain⟨z,hz,hb⟩:=mY hb
    subst hb;exact aWV H ht hz hT e
   ·exact bad hb
  ·cases hb;exact bad rfl
 case mapUpdate t m key x=>split at hb<;>cases hb;exact bad rfl
 case insert t m key x=>split at hb<;>cases hb;exact bad rfl
 case extract x i=>cases hb;exact aWR H hT e
 case typeAssert x xt t Hc =>
  rcases kE hb with hb|hb
  ·obtain⟨d,hd,hb⟩:=dQ hb
   split at hb
   ·cases hb
   ·rename_i N6
    obtain⟨z,hz,hb⟩:=mY hb;subst hb;exact aWW H hd (λms e0=>N6 ms e0) hz hT e
  ·exact bad hb
 case call c =>
  obtain⟨NN,a,ts⟩:=c;cases NN<;>simp only[hU] at hb
  ·cases hb
  ·cases hb
  ·split at hb
   ·exact bad (W2 hb)
   ·rename_i x t ha KX
    split at hb
    ·cases hb;rename_i hu;exact Xh H ha KX (.inl ⟨hu,rfl⟩) hT e
    ·cases hb;rename_i hu;exact Xh H ha KX (.inr (.inl ⟨_,hu,rfl⟩)) hT e
    ·cases hb;exact bad rfl
   ·cases hb;rename_i ha;exact aS7 H ha hT e
   ·cases hb
   ·cases hb;exact bad rfl
 case defer c =>
  split at hb
  ·cases hb
  ·cases hb;exact bad rfl
 all_goals (cases hb;exact bad rfl)
end
section
open Go.AM (hV overwrite aX aP run_underlying run_sizeOf dG aS aU aW bC aQ AD bP cH bytes_beq mf qj heap_alloc_new jM)
variable {P:Program}{w0:cL}{w:World}{J:ak}{h:T O}{nx:Q}{tm:T V}{tmps:Array Value}{ds:List Deferred}{r v:V}
theorem a19:∀(a b:List V)(i:Nat)(t:T V),dK (a++b) i t=dK b (i+a.length) (dK a i t)
 |[],b,i,t=>by simp[dK]
 |v::a,b,i,t=>by
  simp only[Cw,dK,a19 a b,Ak];rw[show i+1+a.length=i+(a.length+1) by omega]
theorem nI(z:List V):∀n,(uK z n).length=n*z.length
 |0=>by simp[uK]
 |n+1=>by simp[uK,nI z n,Co,Nat.add_comm]
theorem x8(z:List V):∀(n j:Nat) c,(uK z n)[j]?=some c->z[j%z.length]?=some c
 |0,j,c,h=>by simp[uK] at h
 |n+1,j,c,h=>by
  simp only[uK] at h;rw[Cg] at h
  split at h
  ·rename_i hj
   rw[Fq hj];exact h
  ·rename_i hj
   have:=x8 z n _ c h
   rw[<-Nat.mod_eq_sub_mod (by omega)] at this;exact this
theorem a2X:∀(vs:List V)(n:Nat)(t:T V),T.vT V.undef vs (qn n) t=dK vs n t
 |[],n,t=>rfl
 |v::vs,n,t=>by simp only[T.vT,dK,a39,a2X vs]
theorem ofList_eq(vs:List V):T.ofList vs=dK vs 0 .nil:=a2X vs 0 .nil
def TL(t:T V)(L:List V):Prop:=∀(j:Nat) c,L[j]?=some c->t.at j=c
theorem TL.puts(L:List V)(t:T V):TL (dK L 0 t) L:=λj c hc=>by
 have hj:j<L.length:=(Ab.1 hc).1;rw[iE,Br ⟨by omega,by omega⟩];simp[Bw,hc]
theorem TL.over{t:T V}{L c:List V}{off:Nat}(h:TL t L)(hle:off+c.length<=L.length):TL (dK c off t) (overwrite L off c):=λj x hx=>by
 rw[aX _ _ _ _ hle] at hx;rw[iE];by_cases h1:j<off
 ·rw[Br h1] at hx
  rw[Bf (by omega)];exact h j x hx
 ·rw[Bf h1] at hx
  by_cases h2:j<off+c.length
  ·rw[Br h2] at hx
   rw[Br ⟨by omega,h2⟩,Bw,hx];rfl
  ·rw[Bf h2] at hx
   rw[Bf (by omega)];exact h j x hx
theorem OR.new{J':ak}{L:List V}{vs:List Value}{t:T V}{T':TypeId}{B0:Nat}(hB:B0<=w.heap.size)(ht:TL t L)(hv:a_ J' L vs)(hk:∀c∈L,ci c=true) :
  OR P J' (w.alloc (.cells ⟨vs⟩ T')) B0 (.row L.length t [] 0 T' true) w.heap.size vs.length :=
 .row _ _ _ _ _ _ _ _ vs hB (AM.heap_alloc_new _) rfl (by rw[hv.1];exact Ae _) (Dr _) (λ_=>hv.1) (λa ha=>by cases ha) (λi v hi HF=>by
  have h1:=ht i L[i] (by simp[hi]);rw[h1];exact hv.2 i _ v (by simp[hi]) HF) λi hi=>by
  have h1:=ht i L[i] (by simp[hi]);rw[h1];exact hk _ (Ea hi)
theorem a28(H:HR P w0 J h nx w){sz n:Nat}:∀{parts:List (Nat×Operand)}{t:T V}{L:List V}{Ls:List Value}{k:T V->aa},XR J tm tmps (parts.map (·.2))->(∀p∈parts,p.1<n)->L.length=n*sz->TL t L->a_ J L Ls->(∀c∈L,ci c=true) ->
  uF tm sz (jH P parts) t k=.ok r->∃t' L' Kk,(∀k',uF tm sz (jH P parts) t k'=k' t')/\k t'=.ok r/\L'.length=n*sz/\TL t' L'/\a_ J L' Kk/\(∀c∈L',ci c=true) /\
   Instr.fill (λi=>some (i*sz,sz)) ⟨Ls⟩ (parts.map λp=>(p.1,ev tmps ds p.2))=some ⟨Kk⟩
 |[],t,L,Ls,k,hT,hp,hL,ht,hv,hk,e=>⟨t,L,Ls,λ_=>rfl,e,hL,ht,hv,hk,rfl⟩
 |(i,x)::parts,t,L,Ls,k,hT,hp,hL,ht,hv,hk,e=>by
  have e0:∀k',uF tm sz (jH P ((i,x)::parts)) t k'=xK (aE P x) tm λv=>Jd v λc=>sA c λm=>gd (Nat.beq m sz) 57 (j8 c (i*sz) t λt'=>uF tm sz (jH P parts) t' k'):=λk'=>rfl
  rw[e0] at e;obtain⟨c,h1,e⟩:=fJ e;have hc:=iT (ds:=ds) H.jt (hT.sub (λy hy=>by simp at hy;simp[hy])) h1;obtain⟨l,hl,e⟩:=rV e;rw[cK] at e;obtain⟨hg,e⟩:=bQ e;rw[dB] at e;have Rp:=Aa hg;obtain⟨g1,g2,g3⟩:=hc.cells hl;have hi:=hp (i,x) (by simp)
  have hle:i*sz+l.length<=L.length:=by
   rw[Rp,hL,<-Ez];exact Cs _ hi
  obtain⟨t',L',Kk,f0,f1,f2,f3,f4,f5,f6⟩:=a28 H (hT.sub (λy hy=>by simp at hy ⊢;exact .inr hy)) (λp K3=>hp p (by simp[K3])) (by rw[aP _ _ _ hle];exact hL) (ht.over hle) (hv.over (off:=i*sz) g1) (a0k hk g2) e;refine⟨t',L',Kk,λk'=>?_,f1,f2,f3,f4,f5,?_⟩
  ·rw[e0]
   have hx:∀M0:V->aa,xK (aE P x) tm M0=M0 c:=λM0=>by
    cases Nc:aE P x with
    |t q=>rw[Nc] at h1;simp only[xE,Am] at h1;subst h1;simp only[xK,dI]
    |c v=>rw[Nc] at h1;simp only[xE,Am] at h1;subst h1;rfl
    |bad=>rw[Nc] at h1;cases h1
   have Iw:∀M0:List V->aa,Jd c M0=M0 l:=λM0=>by
    rcases hl with rfl|⟨h1,rfl⟩
    ·rfl
    ·cases c<;>first|rfl|cases h1
   rw[hx,Iw,cK,hg,gd,dB];exact f0 k'
  ·have BD:(ev tmps ds x).cells.size=sz:=by
    have:=g1.1
    rw[Rp] at this;simpa using this.symm
   have ur:i*sz+(ev tmps ds x).cells.size<=Ls.length:=by rw[<-hv.1,BD];rw[Rp] at hle;exact hle
   simp only[Ba,Instr.fill];rw[Bf (by simp[BD];rw[<-BD];simpa[BD] using ur),jM _ _ _ (by simpa using ur)];exact f6
def AE(b:AB)(tm:T V)(ob:O)(mk:Q->V):Prop:=∀k:O->(Q->V)->aa,aK b tm k=k ob mk
theorem kH{x:X}{v:V}(h1:xE tm x=some v)(k:V->aa):xK x tm k=k v:=by
 cases x with
 |t q=>simp only[xE,Am] at h1;subst h1;simp only[xK,dI]
 |c v=>simp only[xE,Am] at h1;subst h1;rfl
 |bad=>cases h1
theorem di{v:V}{l:List V}(h:VC v l)(k:List V->aa):Jd v k=k l:=by
 rcases h with rfl|⟨h1,rfl⟩
 ·rfl
 ·cases v<;>first|rfl|cases h1
structure AG (P:Program) (w0:cL) (w:World) (J:ak) (tmps:Array Value) (ds:List Deferred) (o:Oper) (ob:O) (mk:Q->V):Prop where
 run:∃x N u,(execOp (ev tmps ds) o).run P w=.ok (.value u) (w.alloc x)/\∀q,J q=none->OR P (J.set q w.heap.size N) (w.alloc x) w0.heap.size ob w.heap.size N/\VR (J.set q w.heap.size N) (mk q) u
section
variable {dst:Option Nat}{ty:TypeId}{pos:String}{AK:Array Edge}{BE:Option (Nat×Bool)}{k:O->(Q->V)->aa}
theorem aUI(H:HR P w0 J h nx w){t:TypeId}{z:List V}(hz:o5 P t=some z):AG P w0 w J tmps ds ⟨dst,.alloc t,ty,pos,AK,BE⟩ (.row z.length (T.ofList z) [] 0 t true) (λq=>.ptr q 0):=by
 obtain⟨zv,h1,h2,h3,h4,h5⟩:=rL (J:=J) hz;refine⟨.cells ⟨zv.cells.toList⟩ t,zv.cells.toList.length,.pointer (some ⟨w.heap.size,0,none⟩),?_,λq hq=>⟨?_,?_⟩⟩
 ·simp[execOp,Instr.alloc,aS h1,newVar,newRow]
 ·refine OR.new H.size ?_ (h3.mono (ak.mz hq)) h4
  rw[ofList_eq];exact TL.puts _ _
 ·exact .ptr _ _ _ _ ak.nh
theorem aUJ(H:HR P w0 J h nx w){t:TypeId}{x:Operand}{n:Nat}(hT:XR J tm tmps (Op.operands (.box t x)).toList)(e:aK (.bx t n (aE P x)) tm k=.ok r) :
  ∃ob mk,AE (.bx t n (aE P x)) tm ob mk/\k ob mk=.ok r/\AG P w0 w J tmps ds ⟨dst,.box t x,ty,pos,AK,BE⟩ ob mk:=by
 simp only[aK] at e;obtain⟨c,h1,e1⟩:=fJ e;have hc:=iT (ds:=ds) H.jt (hT.sub (by simp[Op.operands])) h1;obtain⟨l,hl,e2⟩:=rV e1;rw[cK] at e2;obtain⟨hg,e3⟩:=bQ e2;rw[dB] at e3;obtain⟨g1,g2,g3⟩:=hc.cells hl;have HQ:=Aa hg;refine⟨_,_,λk'=>by simp only[aK,kH h1,di hl,cK,hg,gd,dB],e3,⟨.cells ⟨(ev tmps ds x).cells.toList⟩ t,(ev tmps ds x).cells.toList.length,.pointer (some ⟨w.heap.size,0,none⟩),?_,λq hq=>⟨?_,.ptr _ _ _ _ ak.nh⟩⟩⟩
 ·simp[execOp,Instr.box,newVar,newRow]
 ·rw[<-HQ]
  exact OR.new H.size (TL.puts _ _) (g1.mono (ak.mz hq)) g2
theorem aQl(H:HR P w0 J h nx w){t:TypeId}:AG P w0 w J tmps ds ⟨dst,.makeMap t none,ty,pos,AK,BE⟩ (.map []) (λq=>.map q):=by
 refine⟨.map #[] 0,0,.map (some w.heap.size),?_,λq hq=>⟨.map [] [] 0 _ _ H.size (AM.heap_alloc_new _) ⟨rfl,λi p e h=>by simp at h,λi p e h=>by simp at h⟩ ⟨rfl,λi e h=>by simp at h⟩,.map _ _ _ ak.nh⟩⟩;simp[execOp,Instr.makeMap]
theorem aUz{J':ak}{z:List V}{zv:Value}(hz:a_ J' z zv.cells.toList)(CR:0<z.length)(n:Nat):a_ J' (uK z n) ((List.range (n*z.length)).map λp=>zv.cells[p%zv.cells.size]!):=by
 have BD:zv.cells.size=z.length:=by simpa using hz.1.symm
 refine⟨by simp[nI],λj c u hc hu=>?_⟩;have hj:j<n*z.length:=by have:=(Ab.1 hu).1;simpa using this
 simp only[Aw,Ch hj,Bx,Am] at hu;have h1:=x8 z n j c hc;have hm:j%z.length<zv.cells.size:=by rw[BD];exact Fb _ CR
 refine hz.2 (j%z.length) c u h1 ?_;rw[BD] at hu;rw[<-hu];simp[hm]
theorem aBC{z:List V}(hk:∀c∈z,ci c=true)(n:Nat):∀c∈uK z n,ci c=true:=λc hc=>by
 obtain⟨j,hj⟩:=Di hc;exact hk c (Be (x8 z n j c hj))
theorem aQk(H:HR P w0 J h nx w){t el:TypeId}{len:Nat}{parts:Array (Nat×Operand)}{z:List V}(hu:P.underlying t=some (.slice el))(hz:o5 P el=some z)(CR:0<z.length)(hle:len*z.length<=16777216)(hp:∀p∈parts.toList,p.1<len)
  (hT:XR J tm tmps (Op.operands (.buildSlice t len parts)).toList) (e:aK (.bsl el z.length len (T.ofList (uK z len)) (jH P parts.toList)) tm k=.ok r) :
  ∃ob mk,AE (.bsl el z.length len (T.ofList (uK z len)) (jH P parts.toList)) tm ob mk/\k ob mk=.ok r/\AG P w0 w J tmps ds ⟨dst,.buildSlice t len parts,ty,pos,AK,BE⟩ ob mk:=by
 simp only[aK] at e;obtain⟨zv,h1,h2,h3,h4,h5⟩:=rL (J:=J) hz;have Ng:XR J tm tmps (parts.toList.map (·.2)):=hT.sub (λx hx=>by simpa[Op.operands] using hx);obtain⟨t',L',Kk,f0,f1,f2,f3,f4,f5,f6⟩:=a28 (ds:=ds) (n:=len) H Ng hp (nI z len) (by rw[ofList_eq];exact TL.puts _ _) (aUz h3 CR len) (aBC h4 len) e;rw[aF] at f1
 have A9:(Instr.buildSlice t len (parts.map λ(i,x)=>(i,ev tmps ds x))).run P w=.ok (.slice (some ⟨w.heap.size,0,none⟩) len len) (w.alloc (.cells ⟨Kk⟩ el)):=by
  have BD:zv.cells.size=z.length:=by simpa using h3.1.symm
  have DO:(Array.range (len*z.length)).map (λp=>zv.cells[p%zv.cells.size]!)=⟨(List.range (len*z.length)).map λp=>zv.cells[p%zv.cells.size]!⟩:=by
   apply Cr;simp
  by_cases h0:len*z.length=0
  ·have wH:len=0:=by rcases Nat.mul_eq_zero.1 h0 with h'|h'
                     ·exact h'
                     ·omega
   subst wH;simp only[Fo,List.range_zero,Av] at f6;simp only[Instr.buildSlice,Sem.run_bind,run_underlying hu,Result.andThen_ok,run_sizeOf h2];simp;have NK:Instr.fill (λi=>some (i*z.length,z.length)) #[] (parts.map λ(i,x)=>(i,ev tmps ds x)).toList=some ⟨Kk⟩:=by simpa using f6
   simp at NK;have Mb:Array.map (λ_:Nat=>(default:Value)) (Array.range 0)=#[]:=by apply Cr;simp
   simp[Mb,NK,newRow]
  ·have ES:¬len*z.length>2^24:=by omega
   simp only[Instr.buildSlice,Sem.run_bind,run_underlying hu,Result.andThen_ok,run_sizeOf h2]
   have NK:Instr.fill (λi=>some (i*z.length,z.length)) ((Array.range (len*z.length)).map (λp=>zv.cells[p%zv.cells.size]!)) (parts.map λ(i,x)=>(i,ev tmps ds x)).toList=some ⟨Kk⟩:=by
    rw[DO];simpa using f6
   rw[Bf ES];simp only[Bf h0,Sem.run_bind,aS h1,Result.andThen_ok,Sem.run_pure,NK,newRow,run_newObj];rfl
 have hlen:len*z.length=L'.length:=f2.symm;refine⟨_,_,λk'=>by simp only[aK];rw[f0,aF],f1,⟨.cells ⟨Kk⟩ el,Kk.length,.slice (some ⟨w.heap.size,0,none⟩) len len,?_,λq hq=>⟨?_,.sl _ _ _ _ _ _ ak.nh (Ae _)⟩⟩⟩
 ·simp[execOp,A9]
 ·rw[hlen]
  exact OR.new H.size f3 (f4.mono (ak.mz hq)) f5
end
end
section
open Go.AM (hV overwrite aX aP run_underlying run_sizeOf dG aS aU aW bC aQ AD bP cH bytes_beq mf qj heap_alloc_new jM)
variable {P:Program}{w0:cL}{w:World}{J:ak}{h:T O}{nx:Q}{tm:T V}{tmps:Array Value}{ds:List Deferred}{r v:V}
section
variable {dst:Option Nat}{ty:TypeId}{pos:String}{AK:Array Edge}{BE:Option (Nat×Bool)}{k:O->(Q->V)->aa}
theorem a2j{t e:TypeId}(h:aQ P t=some e):P.underlying t=some (.slice e):=by
 unfold aQ at h
 split at h
 ·cases h;assumption
 ·cases h
theorem uq{o:Option AB}{b:AB}(hb:Ky o=.a b):o=some b:=by
 cases o with
 |none=>cases hb
 |some p=>simp only[Ky] at hb;cases hb;rfl
theorem oR{o:Option PB}{b:AB}(hb:IA o=.a b):False:=by cases o<;>cases hb
theorem V_{o:Option WB}{b:AB}(hb:Lh o=.a b):False:=by cases o<;>cases hb
theorem yj(H:HR P w0 J h nx w){o:Oper}{b:AB}(hb:bU P o=.a b)(hT:XR J tm tmps o.op.operands.toList)(e:aK b tm k=.ok r) :
  ∃ob mk,AE b tm ob mk/\k ob mk=.ok r/\AG P w0 w J tmps ds o ob mk:=by
 obtain⟨dst,op,ty,pos,AK,BE⟩:=o;cases op<;>simp only[bU] at hb
 case alloc t =>
  obtain⟨z,hz,hb⟩:=mY (uq hb);subst hb;exact⟨_,_,λ_=>rfl,e,aUI H hz⟩
 case box t x =>
  obtain⟨s,hs,hb⟩:=mY (uq hb);subst hb;exact aUJ H hT e
 case buildSlice t len parts =>
  obtain⟨el,KG,hb⟩:=dQ (uq hb);obtain⟨z,hz,hb⟩:=dQ hb
  split at hb
  ·rename_i hg
   simp at hb;subst hb;rw[Ac,Ac] at hg;exact aQk H (a2j KG) hz (dR hg.1.1) (Ad hg.1.2) (λp hp=>dR (Au.1 hg.2 p hp)) hT e
  ·cases hb
 case makeMap t r' =>
  split at hb
  ·cases hb;exact⟨_,_,λ_=>rfl,e,aQl H⟩
  ·cases hb
 case binOp op t x y yt=>cases hb
 case build t parts=>exact(oR hb).elim
 case load t a=>exact(oR hb).elim
 case store t a x=>exact(V_ hb).elim
 case unOp op t x=>cases op<;>cases hb
 case convert s d x =>
  split at hb
  ·cases hb
  ·split at hb<;>cases hb
  ·cases hb
 case makeInterface t x=>split at hb<;>cases hb
 case makeFunc fn first caps=>split at hb<;>cases hb
 case slice t x lo hi mx =>
  split at hb
  ·cases hb
  ·split at hb
   ·cases hb
   ·exact(oR hb).elim
  ·cases hb
 case fieldAddr t x f=>exact(oR hb).elim
 case field t x f=>exact(oR hb).elim
 case indexAddr t x i =>
  split at hb
  ·exact(oR hb).elim
  ·exact(oR hb).elim
  ·cases hb
 case index t x i =>
  split at hb
  ·cases hb
  ·exact(oR hb).elim
  ·cases hb
 case lookup t m key ok =>
  split at hb
  ·exact(oR hb).elim
  ·cases hb
 case mapUpdate t m key x=>split at hb<;>cases hb
 case insert t m key x=>split at hb<;>cases hb
 case call c =>
  obtain⟨NN,a,ts⟩:=c;cases NN<;>simp only[hU] at hb
  ·cases hb
  ·cases hb
  ·split at hb
   ·exact(V_ hb).elim
   ·split at hb<;>cases hb
   ·cases hb
   ·cases hb
   ·cases hb
 case defer c=>split at hb<;>cases hb
 case typeAssert x xt t Hc=>exact(oR hb).elim
 all_goals cases hb
end
end
end Go.CM
end
