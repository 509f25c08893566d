import Derived.Test.YtdkkaldimefljaaGreatDoorC03
import Derived.Laws.StructEq
set_option linter.all false
noncomputable section
namespace Go.CM
open Go.AM (oneC overwrite run_underlying run_sizeOf cR aQ aZ bC aL aR fieldAt? bU cD bytes_beq run_getObj run_setObj)
variable {P:Program} {w0 w:World} {ρ:Rho} {h:T O} {nx:Q} {tm:T V} {tmps:Array Value} {ds:List Deferred} {k:V→Res} {r v:V}
variable {dst:Option Nat} {ty:TypeId} {pos:String} {aft:Array Edge} {gd':Option (Nat×Bool)}
theorem aIe (H:HR P w0 ρ h nx w) {t:TypeId} {x:Operand} {d:TypeDesc} (hu:P.underlying t=some d) (hd:∀ m,d≠.interface m) (hT:XR ρ tm tmps (Op.operands (.makeInterface t x)).toList) (e:pK (.mki t (aD P x)) tm h k=.ok r) :
  ∃ v,k v=.ok r∧PG P w ρ tmps ds ⟨dst,.makeInterface t x,ty,pos,aft,gd'⟩ v:=by
 simp only[pK] at e;obtain ⟨c,e1,hc⟩:=opd (ds:=ds) (o:=⟨dst,.makeInterface t x,ty,pos,aft,gd'⟩) H hT (by simp [Op.operands]) e;refine ⟨_,e1,.iface t (ev tmps ds x),?_,.ifc _ _ _ hc⟩;simp only[execOp,Instr.makeInterface,Sem.run_bind,run_underlying hu,Result.andThen_ok];cases d <;> first|rfl|exact absurd rfl (hd _)
theorem aIH (H:HR P w0 ρ h nx w) {f:Nat} {first caps:Array Operand} (hT:XR ρ tm tmps (Op.operands (.makeFunc (.func f) first caps)).toList) (e:pK (.mkf (qn f) (first.toList.map (aD P)) (caps.toList.map (aD P))) tm h k=.ok r) :
  ∃ v,k v=.ok r∧PG P w ρ tmps ds ⟨dst,.makeFunc (.func f) first caps,ty,pos,aft,gd'⟩ v:=by
 simp only[pK] at e;obtain ⟨l,h1,e1⟩:=qF e;obtain ⟨m,h2,e2⟩:=qF e1;have hl:=mJ (ds:=ds) H.glob (hT.sub (fun y hy=>by simp [Op.operands];exact .inl (by simpa using hy))) h1;have hm:=mJ (ds:=ds) H.glob (hT.sub (fun y hy=>by simp [Op.operands];exact .inr (by simpa using hy))) h2;have hv:=VR.fn (ρ:=ρ) (qn f) l m _ _ hl.1 hm.1 hl.2 hm.2;rw[dY] at hv;refine ⟨_,e2,_,?_,hv⟩;have a1:first.map (ev tmps ds)=⟨first.toList.map (ev tmps ds)⟩:=by apply Array.ext';simp
 have a2:caps.map (ev tmps ds)=⟨caps.toList.map (ev tmps ds)⟩:=by apply Array.ext';simp
 simp [execOp,Instr.makeFunc,a1,a2]
theorem VR.inv_nilm {u:Value} (h:VR ρ .nilm u):u=.map none:=by cases h;rfl
def KT (P:Program) (s:KK) (t:TypeId):Prop :=
 match s with
 |.str=>P.underlying t=some .string
 |.int=>∃ kd,P.underlying t=some (.int kd)
 |.ptr=>∃ e j,P.underlying t=some (.pointer e)∧P.info? e=some j∧j.size≠0
 |.st l=>∃ fs,P.underlying t=some (.struct fs)∧kJ P fs.toList 0=some l∧P.stoodInHeld t=false
theorem sF {t e:TypeId} {s:KK} (hm:qZ P t=some (s,e)):∃ kt,P.underlying t=some (.map kt e)∧KT P s kt:=by
 unfold qZ at hm
 split at hm
 ·rename_i kt e' hu
  split at hm
  ·simp at hm;obtain ⟨rfl,rfl⟩:=hm
   exact ⟨kt,hu,by assumption⟩
  ·simp at hm;obtain ⟨rfl,rfl⟩:=hm
   exact ⟨kt,hu,_,by assumption⟩
  ·rename_i p hp
   split at hm
   ·rename_i sz hs
    split at hm
    ·rename_i h0
     simp at hm;obtain ⟨rfl,rfl⟩:=hm;obtain ⟨j,hj,hjs⟩:=j1 hs;exact ⟨kt,hu,p,j,hp,hj,by have:=cZ h0;omega⟩
    ·cases hm
   ·cases hm
  ·rename_i fs hfs
   split at hm
   ·cases hm
   ·rename_i hg
    obtain ⟨l,hl,hm⟩:=j1 hm;simp at hm;obtain ⟨rfl,rfl⟩:=hm;exact ⟨kt,hu,fs,hfs,hl,hg⟩
  ·cases hm
 ·cases hm
theorem KT.desc {s:KK} {t:TypeId} (hk:KT P s t):∃ d,P.underlying t=some d:=by
 cases s with
 |str=>exact ⟨_,hk⟩
 |int=>exact ⟨_,hk.choose_spec⟩
 |ptr=>obtain ⟨e,j,h,_⟩:=hk;exact ⟨_,h⟩
 |st n=>obtain ⟨fs,h,_⟩:=hk;exact ⟨_,h⟩
theorem qX {t:TypeId} {vs:List Value} {off:Nat} {u:Value} (ha:bC P t=some false) (hu:vs[off]?=some u):(part t ⟨vs⟩ off).run P w=.ok u w:=by
 have hi:off < vs.length:=(List.getElem?_eq_some_iff.1 hu).1;have he:vs[off]=u:=(List.getElem?_eq_some_iff.1 hu).2;simp [part,cR ha,hi,he]
def FT (P:Program) (f:FK) (t:TypeId):Prop :=
 match f with
 |.b=>P.underlying t=some .bool
 |.s=>P.underlying t=some .string
 |.i=>∃ kd,P.underlying t=some (.int kd)
theorem FT.flat {f:FK} {t:TypeId} (h:FT P f t):bC P t=some false:=by
 unfold bC;cases f with
 |b=>rw[show P.underlying t=_ from h]
 |s=>rw[show P.underlying t=_ from h]
 |i=>obtain ⟨kd,h⟩:=h;rw[h]
theorem n7 {f:Field} {fs:List Field} {i:Nat} {l:List FK} (h:kJ P (f::fs) i=some l):∃ x l',l=x::l'∧f.offset=i∧f.name≠ "_"∧kJ P fs (i+1)=some l'∧FT P x f.type:=by
 simp only[kJ] at h
 split at h
 ·rename_i hg
  rw[Bool.and_eq_true] at hg
  split at h <;> first|(obtain ⟨l',h1,rfl⟩:=j1 h;exact ⟨_,l',rfl,Nat.eq_of_beq_eq_true hg.1,by simpa using hg.2,h1,by first|assumption|exact ⟨_,by assumption⟩⟩)|cases h
 ·cases h
theorem yZ {f:FK} {t:TypeId} {x y:V} {ux uy:Value} {k:Bool→Res} (ht:FT P f t) (hx:VR ρ x ux) (hy:VR ρ y uy) (e:fS f x y k=.ok r) :
  ∃ b,k b=.ok r∧(∀ n,(Op.equalIn (n+1) t ux uy).run P w=.ok b w)∧(b=true→∀ n,Instr.sameBits n uy ux=true):=by
 cases f with
 |b =>
  have hu:P.underlying t=some .bool:=ht;simp only[fS] at e;cases x <;> simp only at e <;> first|cases e|skip
  cases y <;> simp only at e <;> first|cases e|skip
  rename_i p q;rw[hx.inv_bool,hy.inv_bool];exact ⟨_,e,fun n=>by simp [Op.equalIn,run_underlying hu],fun hb n=>by simp at hb;subst hb;cases n <;> simp [Instr.sameBits]⟩
 |s =>
  have hu:P.underlying t=some .string:=ht;simp only[fS] at e;cases x <;> simp only at e <;> first|cases e|skip
  cases y <;> simp only at e <;> first|cases e|skip
  obtain ⟨p,rfl,rfl,rfl⟩:=hx.inv_str;obtain ⟨q,rfl,rfl,rfl⟩:=hy.inv_str;rw[oz] at e;refine ⟨_,e,fun n=>by simp [Op.equalIn,run_underlying hu,bytes_beq],fun hb n=>?_⟩;simp at hb;subst hb
  have:((⟨⟨p⟩⟩:ByteArray)==⟨⟨p⟩⟩)=true:=by rw[bytes_beq];simp
  cases n <;> exact this
 |i =>
  obtain ⟨kd,hu⟩:=ht;simp only[fS] at e;cases x <;> simp only at e <;> first|cases e|skip
  cases y <;> simp only at e <;> first|cases e|skip
  obtain ⟨hg,e1⟩:=bR e;clear e;have hkk:=sK hg;subst hkk;have e:=e1;clear e1;rw[rG] at e;rw[hx.inv_int,hy.inv_int];exact ⟨_,e,fun n=>by simp [Op.equalIn,run_underlying hu],fun hb n=>by simp at hb;subst hb;cases n <;> simp [Instr.sameBits]⟩
theorem wB:∀ {fs:List Field} {l:List FK} {i:Nat} {xs ys:List V} {us vs:List Value} {k:Bool→Res},kJ P fs i=some l→VRs ρ xs (us.drop i)→VRs ρ ys (vs.drop i)→fJ l xs ys k=.ok r →
  ∃ b,k b=.ok r∧(∀ n,(Op.eqFields (n+1) ⟨us⟩ ⟨vs⟩ fs).run P w=.ok b w)∧(b=true→(us.drop i).length=(vs.drop i).length∧∀ n,((vs.drop i).zip (us.drop i)).all (fun (x,y)=>Instr.sameBits n x y)=true)
 |[],l,i,xs,ys,us,vs,k,hf,hx,hy,e=>by
  simp [kJ] at hf;subst hf;cases xs <;> cases ys <;> simp only[fJ] at e <;> first|cases e|skip
  rw[hx.inv_nil,hy.inv_nil];exact ⟨true,e,fun n=>by simp [Op.eqFields],fun _=>⟨rfl,fun n=>rfl⟩⟩
 |f::fs,l,i,xs,ys,us,vs,k,hf,hx,hy,e=>by
  obtain ⟨x,l',rfl,ho,hn,hf',ht⟩:=n7 hf;cases xs <;> cases ys <;> simp only[fJ] at e <;> first|cases e|skip
  rename_i c cs d dd;obtain ⟨u,us',hu,hcu,hcs⟩:=hx.inv_cons;obtain ⟨v,vs',hv,hdv,hds⟩:=hy.inv_cons;obtain ⟨b,e1,h1,h2⟩:=yZ (w:=w) ht hcu hdv e
  have gu:us[i]?=some u:=by have:(us.drop i)[0]?=some u:=by rw[hu];rfl
                            simpa using this
  have gv:vs[i]?=some v:=by have:(vs.drop i)[0]?=some v:=by rw[hv];rfl
                            simpa using this
  have pu:=qX (P:=P) (w:=w) (t:=f.type) ht.flat gu;have pv:=qX (P:=P) (w:=w) (t:=f.type) ht.flat gv;have du:us.drop (i+1)=us':=by rw[←List.drop_drop,hu];rfl
  have dv:vs.drop (i+1)=vs':=by rw[←List.drop_drop,hv];rfl
  cases b with
  |false =>
   exact ⟨false,e1,fun n=>by simp [Op.eqFields,hn,ho,pu,pv,h1],fun h=>by cases h⟩
  |true =>
   obtain ⟨b',g1,g2,g3⟩:=wB (us:=us) (vs:=vs) hf' (by rw[du];exact hcs) (by rw[dv];exact hds) e1;refine ⟨b',g1,fun n=>by simp [Op.eqFields,hn,ho,pu,pv,h1,g2],fun hb=>?_⟩;obtain ⟨g4,g5⟩:=g3 hb;rw[du,dv] at g4 g5;rw[hu,hv];exact ⟨by simp [g4],fun n=>by simp only[List.zip_cons_cons,List.all_cons,h2 rfl n,Bool.true_and];exact g5 n⟩
theorem lC {t:TypeId} {fs:Array Field} (h:P.underlying t=some (.struct fs)):P.fieldsOf t=fs:=by simp [Program.fieldsOf,h]
theorem uT (H:HR P w0 ρ h nx w) {s:KK} {t:TypeId} {x y:V} {ux uy:Value} {k:Bool→Res} (hk:KT P s t) (hx:VR ρ x ux) (hy:VR ρ y uy) (e:dS s h x y k=.ok r) :
  ∃ b,k b=.ok r∧(Op.equal t ux uy).run P w=.ok b w∧(∀ d b',P.underlying t=some d→Instr.sameNow d ux uy=some b'→b'=b)∧(b=true→Instr.sameBits 10000 uy ux=true):=by
 cases s with
 |str =>
  obtain ⟨b,e1,h1,h2⟩:=yZ (P:=P) (w:=w) (f:=.s) (t:=t) hk hx hy (by simpa [dS,fS] using (by
   simp only[dS] at e;cases x <;> simp only at e <;> first|cases e|skip
   cases y <;> simp only at e <;> first|cases e|skip
   simpa only [fS] using e))
  refine ⟨b,e1,bU hk h1,fun d b' hd hs=>?_,fun hb=>h2 hb 10000⟩;have hu:P.underlying t=some .string:=hk;rw[hu] at hd;obtain rfl:=Option.some.inj hd;have h3:=h1 0;simp only[dS] at e;cases x <;> simp only at e <;> first|cases e|skip
  cases y <;> simp only at e <;> first|cases e|skip
  obtain ⟨p,rfl,rfl,rfl⟩:=hx.inv_str;obtain ⟨q,rfl,rfl,rfl⟩:=hy.inv_str;simp [Op.equalIn,run_underlying hu] at h3;simp [Instr.sameNow] at hs;rw[←h3,←hs]
 |int =>
  obtain ⟨kd,hu⟩:=hk;simp only[dS] at e;cases x <;> simp only at e <;> first|cases e|skip
  cases y <;> simp only at e <;> first|cases e|skip
  obtain ⟨hg,e1⟩:=bR e;clear e;have hkk:=sK hg;subst hkk;have e:=e1;clear e1;rw[rG] at e;rw[hx.inv_int,hy.inv_int];refine ⟨_,e,bU hu fun n=>by simp [Op.equalIn,run_underlying hu],fun d b' hd hs=>?_,fun hb=>by simp at hb;subst hb;simp [Instr.sameBits]⟩;rw[hu] at hd;obtain rfl:=Option.some.inj hd;simp [Instr.sameNow] at hs;exact hs.symm
 |ptr =>
  obtain ⟨el,j,hu,hi,hs⟩:=hk;simp only[dS] at e;cases x <;> simp only at e <;> first|cases e|skip
  cases y <;> simp only at e <;> first|cases e|skip
  obtain ⟨b1,N1,rfl,h1⟩:=hx.inv_ptr;obtain ⟨b2,N2,rfl,h2⟩:=hy.inv_ptr;obtain ⟨z,e,hz1,hz2⟩:=aCB H h1 h2 e;refine ⟨z,e,?_,fun d b' hd hs=>?_,fun hb=>?_⟩
  ·cases z with
   |true =>
    obtain ⟨rfl,rfl⟩:=hz1 rfl;exact bU hu fun n=>by simp [Op.equalIn,run_underlying hu,sizeOf,typeInfo,hi,run_sameAddr_same]
   |false =>
    obtain ⟨g1,⟨ca,ta,g2⟩,cb,tb,g3⟩:=hz2 rfl;exact bU hu fun n=>by simp [Op.equalIn,run_underlying hu,sizeOf,typeInfo,hi,hs,run_sameAddr_other w g1 g2 g3]
  ·rw[hu] at hd;obtain rfl:=Option.some.inj hd
   simp [Instr.sameNow] at hs
  ·obtain ⟨rfl,rfl⟩:=hz1 hb
   simp [Instr.sameBits]
 |st l =>
  obtain ⟨fs,hu,hf,hst⟩:=hk;simp only[dS] at e;cases x <;> simp only at e <;> first|cases e|skip
  cases y <;> simp only at e <;> first|cases e|skip
  obtain ⟨us,rfl,hus,_⟩:=hx.inv_agg;obtain ⟨vs,rfl,hvs,_⟩:=hy.inv_agg;obtain ⟨b,e,h1,h2⟩:=wB (P:=P) (w:=w) (us:=us) (vs:=vs) hf (by simpa using hus) (by simpa using hvs) e;refine ⟨b,e,?_,fun d b' hd hs=>?_,fun hb=>?_⟩
  ·show (Op.equalIn (9998+1+1) t (.agg ⟨us⟩) (.agg ⟨vs⟩)).run P w=_
   rw[run_equalIn_struct w (9998+1) t _ _ (by rw[lC hu];exact hu) hst,lC hu];exact h1 9998
  ·rw[hu] at hd;obtain rfl:=Option.some.inj hd
   simp [Instr.sameNow] at hs
  ·obtain ⟨g1,g2⟩:=h2 hb
   simp only[List.drop_zero] at g1 g2;show (vs.length==us.length&&_)=true;simp only[Bool.and_eq_true,beq_iff_eq];exact ⟨g1.symm,g2 9999⟩
theorem kG (H:HR P w0 ρ h nx w) {s:KK} {t:TypeId} {x:V} {ux:Value} (hk:KT P s t) (hx:VR ρ x ux):∀ {es:List (V×V)} {ents:List MapEntry} {i:Nat} {k:V→Res} {kn:Res},MR ρ es ents→fW s h x es k kn=.ok r →
  (kn=.ok r∧(Instr.findAsking t ux ents i).run P w=.ok none w∧∀ d r',P.underlying t=some d→Instr.findNow d ux ents i=some r'→r'=none) ∨
   ∃ c u j,k c=.ok r∧VR ρ c u∧(Instr.findAsking t ux ents i).run P w=.ok (some (i+j,u)) w∧∀ d r',P.underlying t=some d→Instr.findNow d ux ents i=some r'→r'=some (i+j,u)
 |[],[],i,k,kn,hm,e=>.inl ⟨e,by simp [Instr.findAsking],fun d r' _ h=>by simp [Instr.findNow] at h;exact h.symm⟩
 |[],_::_,i,k,kn,hm,e=>by have:=hm.len;simp at this
 |_::_,[],i,k,kn,hm,e=>by have:=hm.len;simp at this
 |(y,v)::es,en::ents,i,k,kn,hm,e=>by
  simp only[fW] at e;obtain ⟨b,e,s1,s2,_⟩:=uT H hk hx (hm.key 0 (y,v) en rfl rfl) e;have htl:MR ρ es ents:=⟨by have:=hm.len;simpa using this,fun i p e h1 h2=>hm.key (i+1) p e (by simpa using h1) (by simpa using h2),fun i p e h1 h2=>hm.val (i+1) p e (by simpa using h1) (by simpa using h2)⟩
  cases b with
  |true =>
   refine .inr ⟨v,en.val,0,e,hm.val 0 (y,v) en rfl rfl,by simp [Instr.findAsking,s1],fun d r' hd h=>?_⟩;simp only[Instr.findNow] at h
   split at h
   ·simpa using h.symm
   ·rename_i hs;have:=s2 d _ hd hs;cases this
   ·cases h
  |false =>
   have now:∀ d r',P.underlying t=some d→Instr.findNow d ux (en::ents) i=some r'→Instr.findNow d ux ents (i+1)=some r':=fun d r' hd h=>by
    simp only[Instr.findNow] at h
    split at h
    ·rename_i hs;have:=s2 d _ hd hs;cases this
    ·exact h
    ·cases h
   rcases kG H hk hx (i:=i+1) htl e with ⟨f1,f2,f3⟩|⟨c,u,j,f1,f2,f3,f4⟩
   ·exact .inl ⟨f1,by simp [Instr.findAsking,s1,f2],fun d r' hd h=>f3 d r' hd (now d r' hd h)⟩
   ·exact .inr ⟨c,u,j+1,f1,f2,by rw[show i+(j+1)=i+1+j by omega];simp [Instr.findAsking,s1,f3],fun d r' hd h=>by rw[show i+(j+1)=i+1+j by omega];exact f4 d r' hd (now d r' hd h)⟩
theorem run_findKey {t:TypeId} {d:TypeDesc} {ux:Value} {ents:List MapEntry} {o:Option (Nat×Value)} (hd:P.underlying t=some d) (h1:(Instr.findAsking t ux ents 0).run P w=.ok o w) (h2:∀ d r',P.underlying t=some d→Instr.findNow d ux ents 0=some r'→r'=o) :
  (Instr.findKey t ux ents).run P w=.ok o w:=by
 simp only[Instr.findKey,Sem.run_bind,run_underlying hd,Result.andThen_ok];split
 ·rename_i r' hr;rw[h2 d r' hd hr];rfl
 ·exact h1
def KF (s:KK) (x:V):Prop:=∀ l,s=.st l→∃ cs,x=.agg cs∧cs.length=l.length
theorem oV {s:KK} {x:V} {k:Res} (e:fU s x k=.ok r):k=.ok r∧KF s x:=by
 cases s with
 |st l =>
  cases x <;> simp only[fU] at e <;> first|cases e|skip
  rw[cF,cF] at e;obtain ⟨hg,e⟩:=bR e;exact ⟨e,fun l' hl=>by cases hl;exact ⟨_,rfl,Nat.eq_of_beq_eq_true hg⟩⟩
 |_=>exact ⟨e,fun l hl=>by cases hl⟩
theorem x4:∀ {fs:List Field} {i:Nat} {l:List FK},kJ P fs i=some l→l.length=fs.length
 |[],i,l,h=>by simp [kJ] at h;subst h;rfl
 |f::fs,i,l,h=>by
  obtain ⟨x,l',rfl,_,_,h1,_⟩:=n7 h;simp [x4 h1]
theorem run_checkKey {s:KK} {t:TypeId} (hk:KT P s t) {x:V} {u:Value} (hx:VR ρ x u) (hs:KF s x) (b:Bool) (n:Nat):(Instr.checkKey b (n+2) t u).run P w=.ok () w:=by
 cases s with
 |str=>have hd:P.underlying t=some .string:=hk;simp [Instr.checkKey,run_underlying hd]
 |int=>obtain ⟨kd,hd⟩:=hk;simp [Instr.checkKey,run_underlying hd]
 |ptr=>obtain ⟨e,j,hd,_⟩:=hk;simp [Instr.checkKey,run_underlying hd]
 |st l =>
  obtain ⟨fs,hd,hf,_⟩:=hk;obtain ⟨cs,rfl,hl⟩:=hs l rfl;obtain ⟨vs,rfl,hvs,_⟩:=hx.inv_agg;have hlen:vs.length=fs.toList.length:=by rw[←hvs.1,hl,x4 hf]
  have one:∀ (f:Field) (i:Nat) x,FT P x f.type→i < vs.length→f.offset=i→∃ u,(part f.type ⟨vs⟩ f.offset).run P w=.ok u w∧(Instr.checkKey b (n+1) f.type u).run P w=.ok () w:=fun f i x hft hi ho=>by
   subst ho;refine ⟨vs[f.offset],qX hft.flat (by simp [hi]),?_⟩;cases x with
   |b=>have hd:P.underlying f.type=some .bool:=hft;simp [Instr.checkKey,run_underlying hd]
   |s=>have hd:P.underlying f.type=some .string:=hft;simp [Instr.checkKey,run_underlying hd]
   |i=>obtain ⟨kd,hd⟩:=hft;simp [Instr.checkKey,run_underlying hd]
  obtain ⟨m,hm⟩:∃ m,m=n+1:=⟨_,rfl⟩
  rw[show n+2=m+1 by omega];rw[←hm] at one;simp only[Instr.checkKey,Sem.run_bind,run_underlying hd,Result.andThen_ok];rw[←Array.forIn_toList]
  have main:∀ (gs:List Field) (i:Nat) (l:List FK),kJ P gs i=some l→i+gs.length=vs.length →
    (forIn gs PUnit.unit fun f r=>if f.name≠ "_" then do Instr.checkKey b m f.type (←part f.type ⟨vs⟩ f.offset);pure (ForInStep.yield PUnit.unit) else pure (ForInStep.yield PUnit.unit):Sem PUnit).run P w=.ok PUnit.unit w:=by
   intro gs;induction gs with
   |nil=>intro i l _ _;simp
   |cons f gs ih =>
    intro i l hf hi;obtain ⟨x,l',rfl,ho,hn,hf',hft⟩:=n7 hf;simp only[List.length_cons] at hi;obtain ⟨u,h1,h2⟩:=one f i x hft (by omega) ho;simp only[List.forIn_cons,if_pos hn,Sem.run_bind,h1,h2,Result.andThen_ok,Sem.run_pure];exact ih (i+1) l' hf' (by omega)
  have:=main fs.toList 0 l hf (by omega)
  simp at this ⊢;simp [this]
theorem HR.map (H:HR P w0 ρ h nx w) {o:Q} {b N:Nat} {es:List (V×V)} (ho:ρ o=some (b,N)) (hm:h.ob o=.map es∨h.ob o=.mapd es):∃ (ents:List MapEntry) (cl:Nat),w.heap[b]?=some (.map ⟨ents⟩ cl)∧MR ρ es ents∧w0.heap.size≤b:=by
 have:=H.obj o b N ho
 rcases hm with hm|hm
 ·rw[hm] at this
  cases this with|map _ ents cl _ _ hb hw hm hc=>exact ⟨ents,cl,hw,hm,hb⟩
 ·rw[hm] at this
  cases this with|mapd _ ents cl _ _ hb hw hm=>exact ⟨ents,cl,hw,hm,hb⟩
theorem VR.tup2 {a b:V} {x y:Value} (h1:VR ρ a x) (h2:VR ρ b y):VR ρ (.tup [a,b]) (.tuple #[x,y]):=by
 have:=VRs.cons h1 (VRs.cons h2 VRs.nil)
 exact .tup _ _ this.1 this.2
theorem aNv (H:HR P w0 ρ h nx w) {t el:TypeId} {s:KK} {ok:Bool} {z:V} {m key:Operand} (ht:qZ P t=some (s,el)) (hz:zeroV P el=some z) (hT:XR ρ tm tmps (Op.operands (.lookup t m key ok)).toList) (e:pK (.lk s ok z (aD P m) (aD P key)) tm h k=.ok r) :
  ∃ v,k v=.ok r∧PG P w ρ tmps ds ⟨dst,.lookup t m key ok,ty,pos,aft,gd'⟩ v:=by
 simp only[pK] at e;obtain ⟨c,e1,hc⟩:=opd (ds:=ds) (o:=⟨dst,.lookup t m key ok,ty,pos,aft,gd'⟩) H hT (by simp [Op.operands]) e;obtain ⟨x,e2,hx⟩:=opd (ds:=ds) (o:=⟨dst,.lookup t m key ok,ty,pos,aft,gd'⟩) H hT (by simp [Op.operands]) e1;obtain ⟨e2,hkf⟩:=oV e2;obtain ⟨kt,hu,hkt⟩:=sF ht;obtain ⟨d,hd⟩:=hkt.desc;obtain ⟨zv,hz1,hz2,_⟩:=oX (ρ:=ρ) hz;have hzr:=aQ (P:=P) (w:=w) hz1;have hck:=fun b=>run_checkKey (w:=w) hkt hx hkf b 9998
 have hrun:∀ (es:List MapEntry) (o:Option (Nat×Value)),(match ev tmps ds m with
   |.map none=>es=[]
   |.map (some rr)=>∃ cl,w.heap[rr]?=some (.map ⟨es⟩ cl)
   |_=>False)→(Instr.findKey kt (ev tmps ds key) es).run P w=.ok o w→(execOp (ev tmps ds) ⟨dst,.lookup t m key ok,ty,pos,aft,gd'⟩).run P w=.ok (.value (if ok then .tuple #[(o.map (·.2)).getD zv,.bool o.isSome] else (o.map (·.2)).getD zv)) w:=fun es o hes hf=>by
  generalize hg:ev tmps ds m=um at hes
  split at hes
  ·subst hes
   simp only[execOp,Instr.lookup,hg,Sem.run_bind,run_underlying hu,Result.andThen_ok];cases o <;> cases ok <;> simp [hck,hf,hzr]
  ·obtain ⟨cl,hes⟩:=hes
   simp only[execOp,Instr.lookup,hg,Sem.run_bind,run_underlying hu,Result.andThen_ok];cases o <;> cases ok <;> simp [run_getObj (P:=P) hes (by simp),hck,hf,hzr]
  ·exact hes.elim
 cases c <;> simp only at e2 <;> first|cases e2|skip
 ·have hm:=hc.inv_nilm
  have:=hrun [] none (by rw[hm]) (run_findKey hd (by simp [Instr.findAsking]) (fun d r' _ h=>by simp [Instr.findNow] at h;exact h.symm))
  cases ok with
  |true=>exact ⟨_,e2,_,by simpa using this,hz2.tup2 (.bool _)⟩
  |false=>exact ⟨_,e2,_,by simpa using this,hz2⟩
 ·rw[bS] at e2
  obtain ⟨es,hes,e3⟩:=oR e2;obtain ⟨b,N,hm,hb⟩:=hc.inv_map;obtain ⟨ents,cl,g1,g2,_⟩:=H.map hb hes;have hrun':=fun o hf=>hrun ents o (by rw[hm];exact ⟨_,g1⟩) hf
  cases ok with
  |true =>
   rcases kG (i:=0) H hkt hx g2 e3 with ⟨f1,f2,f3⟩|⟨c,u,j,f1,f2,f3,f4⟩
   ·exact ⟨_,f1,_,by simpa using hrun' _ (run_findKey hd f2 f3),hz2.tup2 (.bool _)⟩
   ·exact ⟨_,f1,_,by simpa using hrun' _ (run_findKey hd f3 f4),f2.tup2 (.bool _)⟩
  |false =>
   rcases kG (i:=0) H hkt hx g2 e3 with ⟨f1,f2,f3⟩|⟨c,u,j,f1,f2,f3,f4⟩
   ·exact ⟨_,f1,_,by simpa using hrun' _ (run_findKey hd f2 f3),hz2⟩
   ·exact ⟨_,f1,_,by simpa using hrun' _ (run_findKey hd f3 f4),f2⟩
theorem aAi (H:HR P w0 ρ h nx w) {x:Operand} {t:TypeId} {b:PB} {a:Array Operand} {ts:Array TypeId} (ha:a.toList=[x]) (hts:ts.toList=[t]) (hb:(P.underlying t=some .string∧b=.lenS (aD P x))∨(∃ el,P.underlying t=some (.slice el)∧b=.lenL (aD P x))∨(∃ kt el,P.underlying t=some (.map kt el)∧b=.lenM (aD P x)))
  (hT:XR ρ tm tmps (Op.operands (.call ⟨.builtin .len,a,ts⟩)).toList) (e:pK b tm h k=.ok r):∃ v,k v=.ok r∧PG P w ρ tmps ds ⟨dst,.call ⟨.builtin .len,a,ts⟩,ty,pos,aft,gd'⟩ v:=by
 obtain ⟨a⟩:=a;obtain ⟨ts⟩:=ts;simp only at ha hts;subst ha;subst hts
 have hex:∀ u,(Builtin.len_ #[t] ty #[ev tmps ds x]).run P w=.ok u w→(execOp (ev tmps ds) ⟨dst,.call ⟨.builtin .len,#[x],#[t]⟩,ty,pos,aft,gd'⟩).run P w=.ok (.value u) w:=fun u hu=>by
  simp [execOp,resolve,invoke,builtin];simp [ev] at hu;simp [hu]
 rcases hb with ⟨hu,rfl⟩|⟨el,hu,rfl⟩|⟨kt,el,hu,rfl⟩
 ·simp only[pK] at e
  obtain ⟨c,e1,hc⟩:=opd (ds:=ds) (o:=⟨dst,.call ⟨.builtin .len,#[x],#[t]⟩,ty,pos,aft,gd'⟩) H hT (by simp [Op.operands,Call.operands]) e;obtain ⟨l,n,ho,e2⟩:=oG e1;subst ho;obtain ⟨s,hv,hl,hp⟩:=hc.inv_str;refine ⟨_,e2,_,hex _ (by simp [Builtin.len_,run_underlying hu,hv,goInt];rfl),?_⟩
  have:(⟨⟨s⟩⟩:ByteArray).size=l:=hl
  rw[this];exact .int _ _
 ·simp only[pK] at e
  obtain ⟨c,e1,hc⟩:=opd (ds:=ds) (o:=⟨dst,.call ⟨.builtin .len,#[x],#[t]⟩,ty,pos,aft,gd'⟩) H hT (by simp [Op.operands,Call.operands]) e;obtain ⟨a,l,cap,hv,e2,_⟩:=eo hc e1;exact ⟨_,e2,.int .i64 l,hex _ (by simp [Builtin.len_,run_underlying hu,hv,goInt]),.int _ _⟩
 ·simp only[pK] at e
  obtain ⟨c,e1,hc⟩:=opd (ds:=ds) (o:=⟨dst,.call ⟨.builtin .len,#[x],#[t]⟩,ty,pos,aft,gd'⟩) H hT (by simp [Op.operands,Call.operands]) e;cases c <;> simp only at e1 <;> first|cases e1|skip
  ·have hv:ev tmps ds x=.map none:=hc.inv_nilm
   exact ⟨_,e1,.int .i64 0,hex _ (by simp [Builtin.len_,run_underlying hu,hv,goInt]),.int _ _⟩
  ·rw[bS] at e1
   obtain ⟨es,hes,e2⟩:=oR e1;rw[cF] at e2;obtain ⟨b,N,hv,hb⟩:=hc.inv_map;obtain ⟨ents,cl,g1,g2,_⟩:=H.map hb hes;refine ⟨_,e2,.int .i64 ents.length,hex _ (by simp [Builtin.len_,run_underlying hu,hv,run_getObj (P:=P) g1 (by simp),goInt]),?_⟩;rw[g2.len];exact .int _ _
theorem aIO (H:HR P w0 ρ h nx w) {x y:Operand} {a:Array Operand} {ts:Array TypeId} (ha:a.toList=[x,y]) (hT:XR ρ tm tmps (Op.operands (.call ⟨.builtin .max,a,ts⟩)).toList) (e:pK (.max (aD P x) (aD P y)) tm h k=.ok r) :
  ∃ v,k v=.ok r∧PG P w ρ tmps ds ⟨dst,.call ⟨.builtin .max,a,ts⟩,ty,pos,aft,gd'⟩ v:=by
 obtain ⟨a⟩:=a;simp only at ha;subst ha;simp only[pK] at e;obtain ⟨c,e1,hc⟩:=opd (ds:=ds) (o:=⟨dst,.call ⟨.builtin .max,#[x,y],ts⟩,ty,pos,aft,gd'⟩) H hT (by simp [Op.operands,Call.operands]) e;obtain ⟨d,e2,hd⟩:=opd (ds:=ds) (o:=⟨dst,.call ⟨.builtin .max,#[x,y],ts⟩,ty,pos,aft,gd'⟩) H hT (by simp [Op.operands,Call.operands]) e1;obtain ⟨ka,n,hn,e3⟩:=ee e2;obtain ⟨kb,m,hm,e4⟩:=ee e3;subst hn;subst hm;have h1:=hc.inv_int;have h2:=hd.inv_int;rw[wC] at e4
 have hex:(execOp (ev tmps ds) ⟨dst,.call ⟨.builtin .max,#[x,y],ts⟩,ty,pos,aft,gd'⟩).run P w=.ok (.value (.int ka (if m > n then m else n))) w:=by
  simp [execOp,resolve,invoke,builtin];simp [Builtin.max_,h1,h2,Builtin.max2]
 split at e4
 ·rename_i hb
  simp at hb;rw[if_neg (by omega)] at hex;exact ⟨_,e4,_,hex,.int _ _⟩
 ·rename_i hb
  simp at hb;rw[if_pos (by omega)] at hex;exact ⟨_,e4,_,hex,.int _ _⟩
end Go.CM
end
