import Derived.Test.YtoiocfngjchdiaaGreatDoorT01
set_option linter.all false
set_option maxRecDepth 100000
set_option maxHeartbeats 8000000
namespace Go.Proofs.YtoiocfngjchdiaaGreatDoor
open Go.AM
variable [Aps]
theorem kM(t:TypeId)(v:AVal):(AVal.iface t v).cells=[.iface t v]:=rfl
theorem af:AVal.nilif.cells=[.nilif]:=rfl
theorem pB(v:AVal):(AVal.cptr v).cells=[.cptr v]:=rfl
theorem Pf(t:TypeId)(f a:List UInt8)(b e:AVal):(AVal.rc t f a b e).cells=[.rc t f a b e]:=rfl
theorem EnD.cells(e:EnD):e.enc.cells=[e.enc]:=by cases e<;>simp only[EnD.enc_nil,EnD.enc_cons,EnD.enc_rc]<;>rfl
theorem EnD.flat(e:EnD):AM.flat e.enc=true:=by cases e<;>simp only[EnD.enc_nil,EnD.enc_cons,EnD.enc_rc]<;>rfl
theorem EnD.clean(e:EnD):AM.clean e.enc=true:=by cases e<;>simp only[EnD.enc_nil,EnD.enc_cons,EnD.enc_rc]<;>rfl
theorem EnD.frz(e:EnD):lQ (.val e.enc)=true:=by cases e<;>simp only[EnD.enc_nil,EnD.enc_cons,EnD.enc_rc]<;>rfl
theorem Yq(e:EnD)(s:List UInt8)(i:ItD)(sto:AH):CF (.fn 102) [.val e.enc,.val (.str s),.val i.enc] sto=some (.ret (.val (EnD.cons s i e).enc),sto):=by
 have h1:=e.clean;have h2:=e.flat;have h3:=e.frz;have h6:=e.cells;rw[EnD.enc_cons];obtain⟨t,v,hi,hf,hc⟩:=i.form;rw[hi];have h4:lQ (.val (.iface t v))=true:=by simp only[lQ,Cell.get,AM.flat,hf];rfl
 have h5:lQ (.val (.str s))=true:=rfl;generalize e.enc=E at *;clear hi;refine U1 ?_;exact l7 rfl
theorem Y8{t:TypeId}{v:AVal}(n:Nat)(h:AM.clean v=true):AM.lok n (.iface t v)=true:=by simp only[AM.lok,lokF,h,Bool.true_or]
theorem bz(s:List UInt8)(sto:AH)(i:ItD):∀(e:EnD),e.find s=some i->∃s0 s1 s6 BH,LP 158 (aS Tryz.f158 0) ⟨[.val e.enc,.val (.str s),.val .nilif,.dead,.dead],sto⟩=some (.ret,⟨[s0,s1,.val i.enc,s6,BH],sto⟩)
 |.nil,h=>by simp[EnD.find] at h
 |.cons n j o,h=>by
  simp only[EnD.find] at h;rw[EnD.enc_cons];obtain⟨t,v,hj,hf,hc⟩:=j.form;cases hb:n==s with
  |true =>
   rw[hb,Bl] at h;cases h;rw[hj];clear hj;generalize o.enc=E;iterate 4 apply Exists.intro
   refine tI rfl ?_;exact wk;all_goals exact .dead
  |false =>
   rw[hb,Be] at h;rw[hj];obtain⟨s0,s1,s6,BH,ih⟩:=bz s sto i o h;have h1:=o.clean;have h2:=o.flat;have h3:=o.cells;generalize o.enc=E at *;clear hj;refine⟨s0,s1,s6,BH,?_⟩;refine tI rfl ?_;exact wk
 |.rc f a b o,h=>by
  simp only[EnD.find] at h;rw[EnD.enc_rc];cases hb:f==s with
  |true =>
   rw[hb,Bl] at h;cases h;rw[ItD.enc_fn,EnD.enc_rc];generalize o.enc=E;generalize b.enc=B;iterate 4 apply Exists.intro
   refine tI rfl ?_;exact wk;all_goals exact .dead
  |false =>
   rw[hb,Be] at h;obtain⟨s0,s1,s6,BH,ih⟩:=bz s sto i o h;have h1:=o.clean;have h2:=o.flat;have h3:=o.cells;generalize o.enc=E at *;generalize b.enc=B;refine⟨s0,s1,s6,BH,?_⟩;refine tI rfl ?_;exact wk
theorem aXV(s:List UInt8)(sto:AH)(i:ItD)(e:EnD)(h:e.find s=some i):CF (.fn 158) [.val e.enc,.val (.str s)] sto=some (.ret (.val i.enc),sto):=by
 obtain⟨s0,s1,s6,BH,hl⟩:=bz s sto i e h;obtain⟨t,v,hi,hf,hc⟩:=i.form;rw[hi] at hl ⊢;generalize e.enc=E at *;clear hi h;refine GR ?_;exact l7 (finVal rfl rfl (Y8 _ hc))
theorem hQ{P:Program}{an:AF}{fn:Func}{n:Nat}{tm:List Slot}{sto:AH}{v w:AVal}{t u:Nat}(h2:fn.results.toList=[.tmp t,.tmp u])(h3:tlook an.keep tm t=.val v)(h4:tlook an.keep tm u=.val w)(h5:lok n v=true)(h6:lok n w=true) :
  finish P an fn n ⟨tm,sto⟩=some (.ret (.tup [v,w]),⟨sto.objs.take n,sto.lo⟩):=by
 simp only[finish,h2,fL,h3,h4,DQ,trim,cF,Gb,List.all_nil,h5,h6,Bool.and_self,Bl]
theorem EnD.lok(e:EnD)(n:Nat):AM.lok n e.enc=true:=by cases e<;>simp only[EnD.enc_nil,EnD.enc_cons,EnD.enc_rc]<;>rfl
theorem aYE(b:Bool)(n:Nat):AM.lok n (.bool b)=true:=rfl
theorem aYo(n:Int)(x:AVal)(e:EnD)(sto:AH):CF (.fn 371) [.val (.int .i64 n),.val x,.val e.enc] sto=some (.ret (.tup [e.enc,.bool false]),sto):=by
 have h:=λn=>e.lok n
 generalize e.enc=E at *;refine GR ?_;exact l7 (hQ rfl rfl rfl (h _) rfl)
theorem aYn(y x:AVal)(e:EnD)(sto:AH):CF (.fn 370) [.val (.cptr y),.val x,.val e.enc] sto=some (.ret (.tup [e.enc,.bool false]),sto):=by
 have h:=λn=>e.lok n
 generalize e.enc=E at *;refine GR ?_;exact l7 (hQ rfl rfl rfl (h _) rfl)
theorem aMq(p:PaD)(x:ItD)(e:EnD):p.mtc x e=bif p.kind==1 then(e,true) else bif p.kind==2 then(.cons p.name x e,true) else match x with
  |.mk c l=>bif c==p.name&&l.length==p.args.length then PaD.mtcs p.args l e else(e,false)
  |_=>(e,false):=by
 cases p;cases x<;>rw[PaD.mtc]<;>first|rfl|(intro _ _ h;cases h)
theorem zF(p:PaD)(ps:List PaD)(x:ItD)(xs:List ItD)(e:EnD):PaD.mtcs (p::ps) (x::xs) e=bif (p.mtc x e).2 then PaD.mtcs ps xs (p.mtc x e).1 else((p.mtc x e).1,false):=by rw[PaD.mtcs]
theorem js(xs:List ItD)(e:EnD):PaD.mtcs [] xs e=(e,true):=by cases xs<;>rw[PaD.mtcs]<;>simp
def Rr(p:PaD):Prop:=∀(x:ItD)(e:EnD)(sto:AH),CF (.fn 217) [.val (.cptr p.enc),.val x.enc,.val e.enc] sto=some (.ret (.tup [(p.mtc x e).1.enc,.bool (p.mtc x e).2]),sto)
theorem aC8(c n:List UInt8)(k:Int)(sto:AH)(ys:List PaD):∀(zs:List ItD)(pre:List PaD)(GH:List ItD)(e:EnD),pre.length=GH.length->ys.length=zs.length->(pre++ys).length<AV->(PaD.mtcs ys zs e).2=true->(∀y∈ys,Rr y) ->
  ∃s0 s1 s6 s7 s8 s9 IJ KV II IH KU,LP 372 (aS Tryz.f372 0) ⟨[.val (.cptr (.agg [.str c,.slice ((GH++zs).map ItD.enc)])),.val (.cptr (.agg [.int .i64 k,.str n,.slice ((pre++ys).map PaD.enc)])),.val e.enc,.dead,.dead,.dead,.dead,.dead,.val (.int .i64 ((pre++ys).length:Nat)),.val (.int .i64 (pre.length:Nat)),.dead,.dead],sto⟩ =
   some (.exit 0,⟨[s0,s1,.val (PaD.mtcs ys zs e).1.enc,s6,s7,s8,s9,IJ,KV,II,IH,KU],sto⟩):=by
 induction ys with
 |nil =>
  intro zs pre GH e HS hl h3 hm h4;have AL:=DL pre;simp only[Ao,js];clear h4 hm HS hl;iterate 11 apply Exists.intro
  refine tI rfl ?_;exact wk;all_goals exact .dead
 |cons y ys ih =>
  intro zs pre GH e HS hl h3 hm h4;cases zs with
  |nil=>simp at hl
  |cons z zs =>
  have AN:=dK PaD.enc pre ys y;have C4:=dK ItD.enc GH zs z;rw[<-HS] at C4;have AL:=CY pre ys y;have h0:=zI pre.length;have hw:=wL pre ys y h3;have hc:=h4 y (by simp) z e sto;rw[zF] at hm ⊢;cases hb:(y.mtc z e).2 with
  |false=>rw[hb] at hm;cases hm
  |true =>
  rw[hb,Bl] at hm;simp only[Bl];rw[hb] at hc;obtain⟨s0,s1,s6,s7,s8,s9,IJ,KV,II,IH,KU,ih⟩:=ih zs (pre++[y]) (GH++[z]) (y.mtc z e).1 (by simp[HS]) (by simpa using hl) (by simpa using h3) hm (λx hx=>h4 x (by simp[hx]));simp only[Aj,Am] at ih;obtain⟨t,v,hz,hf,BM⟩:=z.form;have e1:=e.clean;have e2:=e.flat;have e3:=e.cells;have f1:=(y.mtc z e).1.clean;have f2:=(y.mtc z e).1.flat;have f3:=(y.mtc z e).1.cells;rw[y.enc_eq] at AN hc;rw[hz] at C4 hc;refine⟨s0,s1,s6,s7,s8,s9,IJ,KV,II,IH,KU,?_⟩;refine tI rfl ?_;generalize e.enc=E at *;generalize(y.mtc z e).1.enc=E' at *;clear h4 hz hm hl HS;exact B9
theorem aC7(c n:List UInt8)(k:Int)(sto:AH)(ys:List PaD):∀(zs:List ItD)(pre:List PaD)(GH:List ItD)(e:EnD),pre.length=GH.length->ys.length=zs.length->(pre++ys).length<AV->(PaD.mtcs ys zs e).2=false->(∀y∈ys,Rr y) ->
  ∃s0 s1 s2 s8 s9 IJ KV II IH KU,LP 372 (aS Tryz.f372 0) ⟨[.val (.cptr (.agg [.str c,.slice ((GH++zs).map ItD.enc)])),.val (.cptr (.agg [.int .i64 k,.str n,.slice ((pre++ys).map PaD.enc)])),.val e.enc,.dead,.dead,.dead,.dead,.dead,.val (.int .i64 ((pre++ys).length:Nat)),.val (.int .i64 (pre.length:Nat)),.dead,.dead],sto⟩ =
   some (.ret,⟨[s0,s1,s2,.val (PaD.mtcs ys zs e).1.enc,.val (.bool false),s8,s9,IJ,KV,II,IH,KU],sto⟩):=by
 induction ys with
 |nil =>
  intro zs pre GH e HS hl h3 hm h4;rw[js] at hm;cases hm
 |cons y ys ih =>
  intro zs pre GH e HS hl h3 hm h4;cases zs with
  |nil=>simp at hl
  |cons z zs =>
  have AN:=dK PaD.enc pre ys y;have C4:=dK ItD.enc GH zs z;rw[<-HS] at C4;have AL:=CY pre ys y;have h0:=zI pre.length;have hw:=wL pre ys y h3;have hc:=h4 y (by simp) z e sto;rw[zF] at hm ⊢;obtain⟨t,v,hz,hf,BM⟩:=z.form;have e1:=e.clean;have e2:=e.flat;have e3:=e.cells;have f1:=(y.mtc z e).1.clean;have f2:=(y.mtc z e).1.flat;have f3:=(y.mtc z e).1.cells;cases hb:(y.mtc z e).2 with
  |false =>
   simp only[Be];rw[hb] at hc;rw[y.enc_eq] at AN hc;rw[hz] at C4 hc;generalize e.enc=E at *;generalize(y.mtc z e).1.enc=E' at *;clear h4 hz hm hl HS ih;iterate 10 apply Exists.intro
   refine tI rfl ?_;exact B9;all_goals exact .dead
  |true =>
  rw[hb,Bl] at hm;simp only[Bl];rw[hb] at hc;obtain⟨s0,s1,s2,s8,s9,IJ,KV,II,IH,KU,ih⟩:=ih zs (pre++[y]) (GH++[z]) (y.mtc z e).1 (by simp[HS]) (by simpa using hl) (by simpa using h3) hm (λx hx=>h4 x (by simp[hx]));simp only[Aj,Am] at ih;rw[y.enc_eq] at AN hc;rw[hz] at C4 hc;refine⟨s0,s1,s2,s8,s9,IJ,KV,II,IH,KU,?_⟩;refine tI rfl ?_;generalize e.enc=E at *;generalize(y.mtc z e).1.enc=E' at *;clear h4 hz hm hl HS;exact B9
theorem aYp(p:PaD)(hs:p.size<AV)(h:∀y∈p.args,Rr y)(c:List UInt8)(l:List ItD)(e:EnD)(sto:AH)(r:EnD×Bool)(hr:r=bif c==p.name&&l.length==p.args.length then PaD.mtcs p.args l e else(e,false)) :
  CF (.fn 372) [.val (.cptr (.agg [.str c,.slice (l.map ItD.enc)])),.val (.cptr p.enc),.val e.enc] sto=some (.ret (.tup [r.1.enc,.bool r.2]),sto):=by
 have hk:=λ(e:EnD) n=>e.lok n
 have DU:=p.args_len;cases h1:c==p.name with
 |false =>
  have Je:(c != p.name)=true:=by simp[bne,h1]
  rw[h1,Fz,Be] at hr;subst hr;rw[p.enc_eq];have hk:=λn=>e.lok n
  generalize e.enc=E at *;clear h;refine nT ?_;exact l7 (hQ rfl rfl rfl (hk _) rfl)
 |true =>
  have Je:(c != p.name)=false:=by simp[bne,h1]
  rw[h1,Bool.true_and] at hr;cases h2:l.length==p.args.length with
  |false =>
   have RW:(((l.length:Nat):Int) != ((p.args.length:Nat):Int))=true:=by
    have:l.length≠p.args.length:=by simpa using h2
    simp;omega
   rw[h2,Be] at hr;subst hr;rw[p.enc_eq];have hk:=λn=>e.lok n
   generalize e.enc=E at *;clear h h2;refine nT ?_;exact l7 (hQ rfl rfl rfl (hk _) rfl)
  |true =>
   have hll:l.length=p.args.length:=by simpa using h2
   have RW:(((l.length:Nat):Int) != ((p.args.length:Nat):Int))=false:=by simp[hll]
   rw[h2,Bl] at hr;subst hr;rw[p.enc_eq];have hk:=λn=>(PaD.mtcs p.args l e).1.lok n
   cases h3:(PaD.mtcs p.args l e).2 with
   |true =>
    obtain⟨s0,s1,s6,s7,s8,s9,IJ,KV,II,IH,KU,hl⟩:=aC8 c p.name p.kind sto p.args l [] [] e rfl hll.symm (by simp only[Ak];omega) h3 h;simp only[Ak,Ar] at hl;have e0:((0:Nat):Int)=0:=rfl;rw[e0] at hl;generalize(PaD.mtcs p.args l e).1.enc=E' at *;generalize e.enc=E at *;clear h h2 hll;refine nT ?_;exact l7 (hQ rfl rfl rfl (hk _) rfl)
   |false =>
    obtain⟨s0,s1,s2,s8,s9,IJ,KV,II,IH,KU,hl⟩:=aC7 c p.name p.kind sto p.args l [] [] e rfl hll.symm (by simp only[Ak];omega) h3 h;simp only[Ak,Ar] at hl;have e0:((0:Nat):Int)=0:=rfl;rw[e0] at hl;generalize(PaD.mtcs p.args l e).1.enc=E' at *;generalize e.enc=E at *;clear h h2 hll;refine nT ?_;exact l7 (hQ rfl rfl rfl (hk _) rfl)
theorem aYd:∀p:PaD,p.size<AV->Rr p:=by
 intro p;induction p using PaD.ind with
 |h p ih =>
  intro hs x e sto;have hk:=λ(e:EnD) n=>e.lok n
  rw[aMq];cases h1:p.kind==1 with
  |true =>
   simp only[Bl];rw[p.enc_eq];have hk:=λn=>e.lok n
   obtain⟨t,v,hx,hf,BM⟩:=x.form;rw[hx];generalize e.enc=E at *;clear ih hx;refine GR ?_;exact l7 (hQ rfl rfl rfl (hk _) rfl)
  |false =>
  cases h2:p.kind==2 with
  |true =>
   simp only[Bl,Be];have hc:=Yq e p.name x;rw[p.enc_eq];have hk:=λn=>(EnD.cons p.name x e).lok n
   obtain⟨t,v,hx,hf,BM⟩:=x.form;rw[hx] at hc ⊢;generalize(EnD.cons p.name x e).enc=E' at *;generalize e.enc=E at *;clear ih hx;refine GR ?_;exact l7 (hQ rfl rfl rfl (hk _) rfl)
  |false =>
  simp only[Be];have hk:=λn=>e.lok n
  cases x with
  |num n =>
   have hc:=aYo n (.cptr p.enc) e;rw[ItD.enc_num]
   dsimp only
   rw[p.enc_eq] at hc ⊢;generalize e.enc=E at *;clear ih;refine GR ?_;exact l7 (hQ rfl rfl rfl (hk _) rfl)
  |fn a b c =>
   have hc:=aYn (.agg [.str a,.cptr b.enc,c.enc]) (.cptr p.enc) e;rw[ItD.enc_fn]
   dsimp only
   rw[p.enc_eq] at hc ⊢;generalize c.enc=E2 at *;generalize b.enc=B at *;generalize e.enc=E at *;clear ih;refine GR ?_;exact l7 (hQ rfl rfl rfl (hk _) rfl)
  |mk c l =>
   have hc:=λsto=>aYp p hs (λy hy=>ih y hy (by have:=PaD.args_size hy;omega)) c l e sto _ rfl
   dsimp only
   generalize(bif c==p.name&&l.length==p.args.length then PaD.mtcs p.args l e else(e,false))=r at *;have MT:=λn=>r.1.lok n
   rw[ItD.enc_mk];rw[p.enc_eq] at hc ⊢;generalize r.1.enc=E' at *;generalize e.enc=E at *;clear ih;refine GR ?_;exact l7 (hQ rfl rfl rfl (MT _) (aYE _ _))
theorem aGa(x:ExD)(v:ItD)(e:EnD)(sto:AH)(b:ExD)(e':EnD)(hx:PaD.sizes x.pats<AV)(ys:List PaD):∀(pre:List PaD)(zs NT:List ExD),pre.length+1=NT.length->x.pats=pre++ys->x.args=NT++zs->eu ys zs v e=some (b,e') ->
  ∃s0 s1 s2 s8 s9 s10 FA BH CD IJ,LP 161 (aS Tryz.f161 0) ⟨[.val (.cptr (.agg [.int .i64 x.kind,.int .i64 x.num,.str x.name,.str x.arg,.slice (x.args.map ExD.enc),.slice (x.pats.map PaD.enc)])),.val v.enc,.val e.enc,.val .nilptr,.val .nilptr,.dead,.dead,.dead,.val (.int .i64 (x.pats.length:Nat)),.val (.int .i64 (pre.length:Nat)),.dead,.dead],sto⟩ =
   some (.ret,⟨[s0,s1,s2,.val (.cptr b.enc),.val e'.enc,s8,s9,s10,FA,BH,CD,IJ],sto⟩):=by
 induction ys with
 |nil=>intro pre zs NT hl hp ha h;cases zs<;>simp[eu] at h
 |cons y ys ih =>
  intro pre zs NT hl hp ha h;cases zs with
  |nil=>simp[eu] at h
  |cons z zs =>
  have Mx:=PaD.sizes_len x.pats;have AN:=dK PaD.enc pre ys y;have C4:=dK ExD.enc NT zs z;rw[<-hl] at C4;have AL:=CY pre ys y;have h0:=zI pre.length;have X6:=zI (pre.length+1);have hw:=wL pre ys y (by rw[<-hp];omega);simp only[Bm,An,Ar,Bo] at hw;have hc:=aYd y (by have:=PaD.sizes_mem (t:=y) (l:=x.pats) (by rw[hp];simp);omega) v e sto;rw[<-hp] at AN AL;rw[<-ha] at C4;obtain⟨t,w,hv,hf,BM⟩:=v.form;have e1:=e.clean;have e2:=e.flat;have e3:=e.cells;have f1:=(y.mtc v e).1.clean;have f2:=(y.mtc v e).1.flat;have f3:=(y.mtc v e).1.cells;simp only[eu] at h;cases hb:(y.mtc v e).2 with
  |true =>
   rw[hb,Bl] at h;simp only[Al,Bz] at h;obtain⟨h1,h2⟩:=h;subst h1 h2;rw[hb] at hc;rw[y.enc_eq] at AN hc;rw[z.enc_eq] at C4 ⊢;rw[hv] at hc ⊢;generalize(y.mtc v e).1.enc=E' at *;generalize e.enc=E at *;clear hv hl hp ha ih;iterate 10 apply Exists.intro
   refine tI rfl ?_;exact B9;all_goals exact .dead
  |false =>
   rw[hb,Be] at h;rw[hb] at hc;obtain⟨s0,s1,s2,s8,s9,s10,FA,BH,CD,IJ,ih⟩:=ih (pre++[y]) zs (NT++[z]) (by simp[hl]) (by simp[hp]) (by simp[ha]) h;simp only[Bm,An,Ar,Bo] at ih;rw[y.enc_eq] at AN hc;rw[hv] at hc ih ⊢;generalize(y.mtc v e).1.enc=E' at *;generalize e.enc=E at *;clear hv hl hp ha;refine⟨s0,s1,s2,s8,s9,s10,FA,BH,CD,IJ,?_⟩;refine tI rfl ?_;exact B9
theorem aYF(v:AVal)(n:Nat):AM.lok n (.cptr v)=true:=rfl
theorem aXX(x:ExD)(hx:PaD.sizes x.pats<AV)(b0:ExD)(al:List ExD)(ha:x.args=b0::al)(v:ItD)(e:EnD)(b:ExD)(e':EnD)(h:eu x.pats al v e=some (b,e'))(sto:AH) :
  CF (.fn 161) [.val (.cptr x.enc),.val v.enc,.val e.enc] sto=some (.ret (.tup [.cptr b.enc,e'.enc]),sto):=by
 obtain⟨s0,s1,s2,s8,s9,s10,FA,BH,CD,IJ,hl⟩:=aGa x v e sto b e' hx x.pats [] al [b0] rfl rfl ha h;simp only[Ar] at hl;have e0:((0:Nat):Int)=0:=rfl;rw[e0] at hl;have hk:=λn=>e'.lok n
 obtain⟨t,w,hv,hf,BM⟩:=v.form;rw[x.enc_eq];rw[hv] at hl ⊢;generalize e'.enc=E' at *;generalize e.enc=E at *;generalize b.enc=B at *;clear hv ha h;apply tA;rfl;rfl;exact Tryz.func161;rfl;rfl;simp only[go_sem];rfl;refine tQ ?_;repeat first|with_reducible constructor|with_reducible refine tW rfl ?_|((with_reducible apply tG);(·kernel_rfl);(·(intro _ _;(repeat (apply BN;(·(intro _;simp only[*,go_sem,Nat.reduceAdd,reduceIte,Ay,partOf];rfl))));rfl));(·(simp only[go_sem];rfl)))|((with_reducible apply t1);(·(simp only[go_sem];rfl));(·rfl))|((with_reducible apply t0);(·(simp only[go_sem];rfl));(·rfl))|((with_reducible apply tl);(·assumption))
 exact l7 (hQ rfl rfl rfl (aYF _ _) (hk _))
theorem Yl(b:Bool)(sto:AH):CF (.fn 252) [.val (.bool b)] sto=some (.ret (.val (.agg [.str (bif b then qM else kP),.int .i64 0,.slice []])),sto):=by
 cases b with
 |true =>
  simp only[Bl,qM];exact wk
 |false =>
  simp only[Be,kP];exact wk
theorem aRU(x y:Int)(sto:AH):CF (.fn 216) [.val (.str [43]),.val (.int .i64 x),.val (.int .i64 y)] sto=some (.ret (.tup [.agg [.str [],.int .i64 (IntKind.i64.wrap (x+y)),.slice []],.int .i64 0]),sto):=by
 exact wk
theorem aRT(x y:Int)(sto:AH):CF (.fn 216) [.val (.str [45]),.val (.int .i64 x),.val (.int .i64 y)] sto=some (.ret (.tup [.agg [.str [],.int .i64 (IntKind.i64.wrap (x-y)),.slice []],.int .i64 0]),sto):=by
 exact wk
theorem aRS(x y:Int)(sto:AH):CF (.fn 216) [.val (.str [60]),.val (.int .i64 x),.val (.int .i64 y)] sto=some (.ret (.tup [.agg [.str (bif decide (x<y) then qM else kP),.int .i64 0,.slice []],.int .i64 0]),sto):=by
 have h:=Yl (decide (x<y));generalize(bif decide (x<y) then qM else kP)=r at *;exact wk
theorem aRR(x y:Int)(sto:AH):CF (.fn 216) [.val (.str [61]),.val (.int .i64 x),.val (.int .i64 y)] sto=some (.ret (.tup [.agg [.str (bif x==y then qM else kP),.int .i64 0,.slice []],.int .i64 0]),sto):=by
 have h:=Yl (x==y);generalize(bif x==y then qM else kP)=r at *;exact wk
theorem aI4(s:List UInt8)(x y n:Int)(sto:AH)(h:∀S,CF (.fn 216) [.val (.str s),.val (.int .i64 x),.val (.int .i64 y)] S=some (.ret (.tup [.agg [.str [],.int .i64 n,.slice []],.int .i64 0]),S)) :
  CF (.fn 160) [.val (.str s),.val (.iface 210 (.int .i64 x)),.val (.iface 210 (.int .i64 y))] sto=some (.ret (.val (.iface 210 (.int .i64 n))),sto):=by
 exact wk
theorem aI5(s:List UInt8)(x y:Int)(r:List UInt8)(hr:(r==[])=false)(sto:AH)(h:∀S,CF (.fn 216) [.val (.str s),.val (.int .i64 x),.val (.int .i64 y)] S=some (.ret (.tup [.agg [.str r,.int .i64 0,.slice []],.int .i64 0]),S)) :
  CF (.fn 160) [.val (.str s),.val (.iface 210 (.int .i64 x)),.val (.iface 210 (.int .i64 y))] sto=some (.ret (.val (.iface 211 (.cptr (.agg [.str r,.slice []])))),sto):=by
 exact B9
theorem aXW(s:List UInt8)(x y:Int)(v:ItD)(hv:JL s x y=some v)(sto:AH):CF (.fn 160) [.val (.str s),.val (ItD.num x).enc,.val (ItD.num y).enc] sto=some (.ret (.val v.enc),sto):=by
 unfold JL at hv;rw[ItD.enc_num,ItD.enc_num];cases h1:s==[43] with
 |true =>
  rw[h1,Bl] at hv;cases hv;obtain rfl:=Bx.1 h1;rw[ItD.enc_num];exact aI4 _ x y _ sto (aRU x y)
 |false =>
 rw[h1,Be] at hv;cases h2:s==[45] with
 |true =>
  rw[h2,Bl] at hv;cases hv;obtain rfl:=Bx.1 h2;rw[ItD.enc_num];exact aI4 _ x y _ sto (aRT x y)
 |false =>
 rw[h2,Be] at hv;cases h3:s==[60] with
 |true =>
  rw[h3,Bl] at hv;cases hv;obtain rfl:=Bx.1 h3;rw[ItD.enc_mk];exact aI5 _ x y _ (by cases decide (x<y)<;>rfl) sto (aRS x y)
 |false =>
 rw[h3,Be] at hv;cases h4:s==[61] with
 |true =>
  rw[h4,Bl] at hv;cases hv;obtain rfl:=Bx.1 h4;rw[ItD.enc_mk];exact aI5 _ x y _ (by cases x==y<;>rfl) sto (aRR x y)
 |false=>rw[h4] at hv;cases hv
def AW(Q:List AObj)(d s:Nat):List AObj:=Q.set d (.box [.val (.int .i64 (s:Nat))])
theorem bW(Q:List AObj)(d s:Nat):(AW Q d s).length=Q.length:=by simp[AW]
theorem dm{Q:List AObj}{d:Nat}(h:d<Q.length)(s:Nat):(AW Q d s)[d]?=some (.box [.val (.int .i64 (s:Nat))]):=by simp[AW,h]
theorem jG{Q:List AObj}{d i:Nat}(h:i≠d)(s:Nat):(AW Q d s)[i]?=Q[i]?:=by simp[AW,Cb,Db h]
theorem dn(Q:List AObj)(d s s':Nat):(AW Q d s).set d (.box [.val (.int .i64 (s':Nat))])=AW Q d s':=by simp[AW]
theorem eR{Q:List AObj}{d:Nat}(h:d<Q.length)(L:List AObj)(s:Nat):AW (Q++L) d s=AW Q d s++L:=by simp[AW,Ej,h]
theorem u9{α:Type}{X:Option (α×AH)}{r:α}{Q:List AObj}{d s s' lo:Nat}(h:X=some (r,⟨(AW Q d s').take (AW Q d s).length,lo⟩)):X=some (r,⟨AW Q d s',lo⟩):=by
 rw[h,Bs];rw[bW,bW];exact Af _
theorem QA{α:Type}{X:Option (α×AH)}{r:α}{Q L:List AObj}{d s s' lo:Nat}(h:X=some (r,⟨(AW Q d s'++L).take (AW Q d s).length,lo⟩)):X=some (r,⟨AW Q d s',lo⟩):=by
 rw[h,Fq];rw[bW,bW]
structure RunOK (Q:List AObj) (ir d iq q lo:Nat):Prop where
 lt:d<Q.length
 run:Q[ir]?=some (.box [.val (.func 31 [.loc d 0,.loc iq 0])])
 fuel:Q[iq]?=some (.box [.val (.int .i64 (q:Nat))])
 ne1:ir≠d
 ne2:iq≠d
 lo:lo<=d
 max:q<4294967296
theorem RunOK.app{Q:List AObj}{ir d iq q lo:Nat}(h:RunOK Q ir d iq q lo)(L:List AObj):RunOK (Q++L) ir d iq q lo :=
 ⟨by simp;have:=h.lt;omega,by rw[Az (Ab.1 h.run).1];exact h.run,by rw[Az (Ab.1 h.fuel).1];exact h.fuel,h.ne1,h.ne2,h.lo,h.max⟩
theorem c31{Q:List AObj}{ir d iq q lo s:Nat}(h:RunOK Q ir d iq q lo)(hs:s<q):CF (.fn 31) [.val (.loc d 0),.val (.loc iq 0)] ⟨AW Q d s,lo⟩=some (.ret (.tup []),⟨AW Q d (s+1),lo⟩):=by
 have h1:=dm h.lt s;have h2:=(jG h.ne2 s).trans h.fuel;have h3:=dn Q d s (s+1);have h4:decide (((s:Nat):Int)>=(q:Nat))=false:=by simp;omega
 have h5:IntKind.i64.wrap (((s:Nat):Int)+1)=((s+1:Nat):Int):=wI _ (by have:=h.max;simp only[AV];omega);have h6:Nat.ble lo d=true:=Ah h.lo;have hl:=bW Q d;clear h hs;refine GR ?_;exact u9 rfl
def Rs(e:ExD)(env:EnD)(r:ItD)(n:Nat):Prop:=∀(Q:List AObj)(ir d iq q lo s:Nat),RunOK Q ir d iq q lo->s+n<=q->CF (.fn 104) [.val (.loc ir 0),.val (.cptr e.enc),.val env.enc] ⟨AW Q d s,lo⟩=some (.ret (.val r.enc),⟨AW Q d (s+n),lo⟩)
theorem aF9{Q:List AObj}{ir d iq q lo:Nat}(hR:RunOK Q ir d iq q lo)(N:Nat)(H:∀m e env r,Ev e env r m->m<=N->Rs e env r m)(env:EnD)(ys:List ExD):∀(pre:List ExD)(X rs:List ItD)(s n:Nat),(pre++ys).length<1000->X.length=pre.length->EvL ys env rs n->n<=N->s+n<=q ->
  ∃s0 s1 s2 s6 s8 s10 BI BZ,LP 159 (aS Tryz.f159 0) ⟨[.val (.loc ir 0),.val (.slice ((pre++ys).map ExD.enc)),.val env.enc,.dead,.own 1 (X.map ItD.enc),.dead,.val (.int .i64 ((pre++ys).length:Nat)),.val (.int .i64 (pre.length:Nat)),.dead],⟨AW Q d s,lo⟩⟩ =
   some (.exit 0,⟨[s0,s1,s2,s6,.own 1 ((X++rs).map ItD.enc),s8,s10,BI,BZ],⟨AW Q d (s+n),lo⟩⟩):=by
 induction ys with
 |nil =>
  intro pre X rs s n h3 hX h h4 h5;cases h;have AL:=DL pre;simp only[Ao,Aw];clear hX H hR h5;iterate 8 apply Exists.intro
  refine tI rfl ?_;exact wk;all_goals exact .dead
 |cons y ys ih =>
  intro pre X rs s n h3 hX h h4 h5;cases h with
  |@cons _ _ _ v vs n k h1 h2 =>
  have AN:=dK ExD.enc pre ys y;have AL:=CY pre ys y;have h0:=zI pre.length;have hw:=wL pre ys y (by simp only[AV];omega);have hc:=H n y env v h1 (by omega) Q ir d iq q lo s hR (by omega);have hr:Nat.ble (X.length+1) room=true:=Ah (by unfold room;simp only[Bm,An] at h3;omega);obtain⟨s0,s1,s2,s6,s8,s10,BI,BZ,ih⟩:=ih (pre++[y]) (X++[v]) vs (s+n) k (by simpa using h3) (by simp[hX]) h2 (by omega) (by omega);have e1:s+(n+k)=s+n+k:=by omega
  rw[e1];obtain⟨t,w,hv,hf,BM⟩:=v.form;have emap:(X++[v]).map ItD.enc=X.map ItD.enc++[.iface t w]:=by simp[hv]
  rw[emap] at ih;simp only[Aj,Am] at ih;rw[y.enc_eq] at AN hc;rw[hv] at hc;generalize env.enc=E at *;refine⟨s0,s1,s2,s6,s8,s10,BI,BZ,?_⟩;refine tI rfl ?_;clear H hR h1 h2 hX hv emap e1 h4 h5;refine U1 ?_;exact ih
theorem Zx(l:List AVal)(n:Nat):AM.lok n (.slice l)=true:=rfl
theorem VE{Q:List AObj}{ir d iq q lo s:Nat}(hR:RunOK Q ir d iq q lo)(n:Nat)(H:∀m e env r,Ev e env r m->m<=n->Rs e env r m)(env:EnD)(al:List ExD)(rs:List ItD)(hl:al.length<1000)(h:EvL al env rs n)(h5:s+n<=q) :
  CF (.fn 159) [.val (.loc ir 0),.val (.slice (al.map ExD.enc)),.val env.enc] ⟨AW Q d s,lo⟩=some (.ret (.val (.slice (rs.map ItD.enc))),⟨AW Q d (s+n),lo⟩):=by
 obtain⟨s0,s1,s2,s6,s8,s10,BI,BZ,BJ⟩:=aF9 hR n H env al [] [] rs s n (by simpa using hl) rfl h (Af _) h5;simp only[Ak,Ar,Ax,show((0:Nat):Int)=0 from rfl] at BJ;generalize env.enc=E at *;clear H hR h hl h5;refine nT ?_;exact u9 (finVal rfl rfl (Zx _ _))
theorem EnD.thaw(e:EnD)(o:List AObj):gZ o (.val e.enc)=.val e.enc:=by cases e<;>simp only[EnD.enc_nil,EnD.enc_cons,EnD.enc_rc]<;>rfl
theorem U5{P:Program}{ans:FuncId->AF}{lp:aQ}{f:FuncId}{c:Code}{st AY:St}{x:bI×St}(h:eV (ans f) c st=AY)(k:lp f c AY=some x):KL P ans lp f c .norm st=some x:=by
 show lp f c (eV (ans f) c st)=_;rw[h];exact k
theorem tM{E:AVal}{a b:Slot}{O:List AObj}{lo:Nat}{E':AVal}(h:gZ O (.val E)=.val E'){s6 s7 s8 s9 s10 CL CR HB Iu It HA EZ EY EX EW:Slot} :
  eV (ans 104) (aS Tryz.f104 0) ⟨[a,b,.val E,s6,s7,s8,s9,s10,CL,CR,HB,Iu,It,HA,EZ,EY,EX,EW],⟨O,lo⟩⟩=⟨[a,b,.val E',.dead,.dead,.dead,.dead,.dead,.dead,.dead,.dead,.dead,.dead,.dead,.dead,.dead,.dead,.dead],⟨O,lo⟩⟩:=by
 have h1:∀st,eV (ans 104) (aS Tryz.f104 0) st=mY (ans 104) (aS Tryz.f104 0) ⟨dU st.sto.objs [2] (ans 104).keep st.tm,st.sto⟩:=λst=>by rw[Vo];rfl
 rw[h1,Vo]
 have e0:dU O [2] aN104.keep [a,b,.val E,s6,s7,s8,s9,s10,CL,CR,HB,Iu,It,HA,EZ,EY,EX,EW]=[a,b,.val E',s6,s7,s8,s9,s10,CL,CR,HB,Iu,It,HA,EZ,EY,EX,EW]:=by
  show a::b::gZ O (.val E)::_=_;rw[h];rfl
 simp only;rw[e0];rfl
end Go.Proofs.YtoiocfngjchdiaaGreatDoor
