import Derived.Test.YtdkkaldimefljaaGreatDoorA04
set_option linter.all false
namespace Go.AM
section
variable {P:Program}{ans:FuncId->AK}{an:AK}{w:World}{B0:Nat}{Z:HT}{J:List Nat}{ow:Own}{tmps:Array Value}{R:Type}{r:R}
variable {tm:List Slot}{rs:RS}{ds:List Deferred}{cf:aO}{lp:aP}
theorem Rel.weak{E E':Nat->Slot}{objs:List AObj}(h:Rel P ans B0 w Z J ow an E tmps objs)(hE:∀t,E' t=.dead\/(E' t=E t/\∀u o,E' t≠.ref u o)\/∃sz,E' t=.own sz []/\E t=.nl):Rel P ans B0 w Z J ow an E' tmps objs:=by
 refine⟨h.size,h.wsat,λt=>?_,λd u o e=>?_,λt cs e=>?_,h.objs,h.lt,h.base,λt ht=>?_⟩
 ·rcases hE t with h1|⟨h1,_⟩|⟨sz,h1,h2⟩
  ·rw[h1];exact .dead _
  ·rw[h1];exact h.slots t
  ·have:=h.slots t
   rw[h2] at this;rw[h1];generalize tmps.getD t undef=v at this;cases this with|nl=>exact .own _ _ _ (zK _ _)
 ·rcases hE d with h1|⟨_,h2⟩|⟨sz,h1,_⟩
  ·rw[h1] at e;cases e
  ·exact absurd e (h2 u o)
  ·rw[h1] at e;cases e
 ·rcases hE t with h1|⟨h1,_⟩|⟨sz,h1,_⟩
  ·rw[h1] at e;cases e
  ·rw[h1] at e;exact h.boxes t cs e
  ·rw[h1] at e;cases e
 ·rcases hE t with h1|⟨h1,_⟩|⟨sz,h1,h2⟩
  ·exact h1
  ·rw[h1];exact h.hi t ht
  ·have:=h.hi t ht;rw[h2] at this;cases this
theorem mO:∀(ks:List Nat)(tm:List Slot)(sc:List (Nat×Slot))(t:Nat),tlook ks (commit ks tm sc) t=.dead\/tlook ks (commit ks tm sc) t=(match bL sc t with|some s=>kS s|none=>tlook ks tm t)
 |[],tm,sc,t=>.inl (by cases tm<;>rfl)
 |k::ks,[],sc,t=>.inl rfl
 |k::ks,s::ss,sc,t=>by
  simp only[commit,tlook];cases hk:Nat.beq k t with
  |true =>
   have:=Aa hk
   subst this;exact .inr rfl
  |false =>
   simp only[Aq];exact mO ks ss sc t
theorem zY(h:List (Nat×Option Nat)):∀(ks:List Nat)(tm:List Slot)(t:Nat),tlook ks (iR h ks tm) t=.dead\/tlook ks (iR h ks tm) t=nM (Y9 h t) (tlook ks tm t)
 |[],tm,t=>.inl (by cases tm<;>rfl)
 |k::ks,[],t=>.inl rfl
 |k::ks,s::ss,t=>by
  simp only[iR,tlook];cases hk:Nat.beq k t with
  |true =>
   have:=Aa hk
   subst this;exact .inr rfl
  |false =>
   simp only[Aq];exact zY h ks ss t
theorem uR(f:Slot->Slot)(hf:f .dead=.dead):∀(ks:List Nat)(tm:List Slot)(t:Nat),tlook ks (tm.map f) t=f (tlook ks tm t)
 |[],tm,t=>by cases tm<;>simp[tlook,hf]
 |k::ks,[],t=>by simp[tlook,hf]
 |k::ks,s::ss,t=>by
  simp only[Aw,tlook];cases hk:Nat.beq k t with
  |true=>rfl
  |false=>exact uR f hf ks ss t
theorem noRef.tlook(h:noRef tm)(ks:List Nat)(t u o:Nat):tlook ks tm t≠.ref u o:=by
 rcases pG (ks:=ks) (tm:=tm) (t:=t) with h1|h1
 ·rw[h1];simp
 ·exact h _ h1 u o
theorem uq(s:Slot)(u o:Nat):kS s≠.ref u o:=by cases s<;>simp[kS]
theorem noRef.commit:∀{ks:List Nat}{tm:List Slot}{sc:List (Nat×Slot)},noRef tm->noRef (commit ks tm sc)
 |[],tm,sc,h=>by cases tm<;>(intro s hs;simp[AM.commit] at hs)
 |k::ks,[],sc,h=>by intro s hs;simp[AM.commit] at hs
 |k::ks,s::ss,sc,h=>by
  intro x hx u o;simp only[AM.commit,Bb] at hx;rcases hx with hx|hx
  ·subst hx
   split
   ·exact uq _ u o
   ·exact h s (by simp) u o
  ·exact noRef.commit (ks:=ks) (tm:=ss) (sc:=sc) (λy hy=>h y (by simp[hy])) x hx u o
theorem ma{c:Option (Option Nat)}{s:Slot}(h:∀u o,s≠.ref u o)(u o:Nat):nM c s≠.ref u o:=by
 unfold nM;split
 ·simp
 ·exact h u o
 ·split
  ·simp
  ·exact h u o
theorem noRef.head(hh:List (Nat×Option Nat)):∀{ks:List Nat}{tm:List Slot},noRef tm->noRef (iR hh ks tm)
 |[],tm,h=>by cases tm<;>(intro s hs;simp[iR] at hs)
 |k::ks,[],h=>by intro s hs;simp[iR] at hs
 |k::ks,s::ss,h=>by
  intro x hx u o;simp only[iR,Bb] at hx;rcases hx with hx|hx
  ·subst hx;exact ma (h s (by simp)) u o
  ·exact noRef.head hh (ks:=ks) (tm:=ss) (λy hy=>h y (by simp[hy])) x hx u o
structure At (P:Program) (ans:FuncId->AK) (fid:FuncId) (B0:Nat) (w:World) (Z:HT) (J:List Nat) (ow:Own) (st:St) (tmps:Array Value):Prop where
 rel:Rel P ans B0 w Z J ow (ans fid) (sl (ans fid) st.tm ⟨[],st.sto⟩) tmps st.sto.objs
 nr:noRef st.tm
 lo:st.sto.lo<=st.sto.objs.length
theorem At.commit{fid:FuncId}{sto:AN}(hn:noRef tm)(h:Rel P ans B0 w Z J ow (ans fid) (sl (ans fid) tm rs) tmps rs.sto.objs)(AW:rs.sto.lo<=rs.sto.objs.length)(hs:sto=rs.sto):At P ans fid B0 w Z J ow ⟨commit (ans fid).keep tm rs.sc,sto⟩ tmps:=by
 subst hs;refine⟨h.weak λt=>?_,hn.commit,AW⟩;show tlook (ans fid).keep (AM.commit (ans fid).keep tm rs.sc) t=.dead\/_;rcases mO (ans fid).keep tm rs.sc t with h1|h1
 ·exact .inl h1
 ·show _\/(tlook (ans fid).keep (AM.commit (ans fid).keep tm rs.sc) t=RS.look (ans fid).keep tm rs t/\∀u o,tlook (ans fid).keep (AM.commit (ans fid).keep tm rs.sc) t≠.ref u o)\/_
  rw[h1];unfold RS.look;cases hs:bL rs.sc t with
  |some s =>
   by_cases hr:∃u o,s=.ref u o
   ·obtain⟨u,o,rfl⟩:=hr;exact .inl rfl
   ·have:kS s=s:=by cases s<;>simp_all [kS]
    simp only[this];exact .inr (.inl ⟨trivial,λu o he=>hr ⟨u,o,he⟩⟩)
  |none=>exact .inr (.inl ⟨rfl,λu o=>hn.tlook _ _ _ _⟩)
theorem At.head{fid:FuncId}{st:St}(h:At P ans fid B0 w Z J ow st tmps)(c:Code):At P ans fid B0 w Z J ow (jN (ans fid) c st) tmps/\(jN (ans fid) c st).sto=st.sto:=by
 unfold jN;split
 ·rename_i hh _
  refine⟨⟨h.rel.weak λt=>?_,h.nr.head hh,h.lo⟩,rfl⟩;show tlook (ans fid).keep (iR hh (ans fid).keep st.tm) t=.dead\/(tlook (ans fid).keep (iR hh (ans fid).keep st.tm) t=tlook (ans fid).keep st.tm t/\∀u o,tlook (ans fid).keep (iR hh (ans fid).keep st.tm) t≠.ref u o)\/∃sz,tlook (ans fid).keep (iR hh (ans fid).keep st.tm) t=_/\tlook (ans fid).keep st.tm t=_;have Jl:=λu o=>h.nr.tlook (ans fid).keep t u o
  rcases zY hh (ans fid).keep st.tm t with h1|h1
  ·exact .inl h1
  ·rw[h1]
   unfold nM;split
   ·exact .inl rfl
   ·exact .inr (.inl ⟨rfl,Jl⟩)
   ·split
    ·exact .inr (.inr ⟨_,rfl,by assumption⟩)
    ·exact .inr (.inl ⟨rfl,Jl⟩)
 ·exact⟨h,rfl⟩
structure MarksL (w:World) (ow:Own) (B1:Nat) (ds:List Deferred):Prop where
 all:∀d∈ds,∃D,d.target=.collected D/\w.heap[D]?=some (.deferred (some []))/\ow D=none/\B1<=D
 nodup:ds.Pairwise λd d'=>d.target≠d'.target
theorem MarksL.nil(w:World)(ow:Own)(B1:Nat):MarksL w ow B1 []:=⟨by simp,by simp⟩
theorem MarksL.mono{w':World}{Z':HT}{AP:Own}{B1:Nat}(h:MarksL w ow B1 ds)(hF:Fr w Z ow w' Z' AP):MarksL w' AP B1 ds :=
 ⟨λd hd=>by
  obtain⟨D,h1,h2,h3,h4⟩:=h.all d hd;have AR:D<w.heap.size:=(Ad.1 h2).1;refine⟨D,h1,(hF.keep D AR h3).1.trans h2,?_,h4⟩;cases e:AP D with
  |none=>rfl
  |some x=>rcases hF.own D (by simp[e]) with h5|h5
           ·exact absurd h3 h5
           ·omega,h.nodup⟩
def Marks(w:World)(ow:Own)(B1:Nat)(b:Frame)(ds:List Deferred):Prop:=∃ms,ds=ms++b.defers/\MarksL w ow B1 ms
theorem Marks.nil(w:World)(ow:Own)(B1:Nat){b:Frame}(h:b.defers=[]:=by rfl):Marks w ow B1 b []:=⟨[],by rw[h];rfl,.nil w ow B1⟩
theorem Marks.mono{w':World}{Z':HT}{AP:Own}{B1:Nat}{b:Frame}(h:Marks w ow B1 b ds)(hF:Fr w Z ow w' Z' AP):Marks w' AP B1 b ds:=by
 obtain⟨ms,h1,h2⟩:=h;exact⟨ms,h1,h2.mono hF⟩
def Arr(P:Program)(Z:HT)(J:List Nat)(b:Frame)(cs:List Frame)(items:List Item)(m:Machine)(tmps:Array Value)(ds:List Deferred)(w:World):bD->Prop
 |.norm=>Steps P m (lone (b.atR ⟨tmps,ds⟩ items) cs w)
 |.exit id=>∃k,exitTo id k=exitTo id items/\Steps P m (lone (b.atR ⟨tmps,ds⟩ (.code (.exit id)::k)) cs w)
 |.ret=>∃k,Steps P m (lone (b.atR ⟨tmps,ds⟩ (.code .ret::k)) cs w)
 |.pan x=>∃v k,VRel Z J x v/\Steps P m (lone { b.atR ⟨tmps,ds⟩ k with mode:=.panicking [{ v,recovered:=false }] } cs w)
theorem Arr.head{b:Frame}{cs:List Frame}{items:List Item}{m m1:Machine}{e:bD}(h:Arr P Z J b cs items m1 tmps ds w e)(hs:Steps P m m1):Arr P Z J b cs items m tmps ds w e:=by
 cases e with
 |norm=>exact hs.trans h
 |exit id=>obtain⟨k,h1,h2⟩:=h;exact⟨k,h1,hs.trans h2⟩
 |ret=>obtain⟨k,h2⟩:=h;exact⟨k,hs.trans h2⟩
 |pan x=>obtain⟨v,k,h1,h2⟩:=h;exact⟨v,k,h1,hs.trans h2⟩
structure Rest (ans:FuncId->AK) (B0:Nat) (w:World) (Z:HT) (J:List Nat) (ow:Own) (sto:AN):Prop where
 wsat:WSat Z w
 objs:OsRel w B0 Z J ow ans sto.objs
 lt:∀b,ow b≠none->b<w.heap.size
def AtE(P:Program)(ans:FuncId->AK)(fid:FuncId)(B0:Nat)(w:World)(Z:HT)(J:List Nat)(ow:Own)(st:St)(tmps:Array Value):bD->Prop
 |.pan _=>Rest ans B0 w Z J ow st.sto
 |_=>At P ans fid B0 w Z J ow st tmps
theorem At.rest{fid:FuncId}{st:St}(h:At P ans fid B0 w Z J ow st tmps):Rest ans B0 w Z J ow st.sto:=⟨h.rel.wsat,h.rel.objs,h.rel.lt⟩
theorem AtE.rest{fid:FuncId}{st:St}{e:bD}(h:AtE P ans fid B0 w Z J ow st tmps e):Rest ans B0 w Z J ow st.sto:=by
 cases e with
 |pan x=>exact h
 |norm=>exact At.rest h
 |exit=>exact At.rest h
 |ret=>exact At.rest h
def XEnd(P:Program)(ans:FuncId->AK)(fid:FuncId)(B0 B1:Nat)(w:World)(Z:HT)(J:List Nat)(ow:Own)(sto:AN)(b:Frame)(cs:List Frame)(items:List Item)(m:Machine)(e:bD)(BF:St):Prop :=
 ∃w' Z' J' AP tmps' DE,AtE P ans fid B0 w' Z' J' AP BF tmps' e/\Marks w' AP B1 b DE/\Fr w Z ow w' Z' AP/\pre J J'/\StoLe sto BF.sto/\Arr P Z' J' b cs items m tmps' DE w' e
theorem XEnd.head{fid:FuncId}{B1:Nat}{sto:AN}{b:Frame}{cs:List Frame}{items:List Item}{m m1:Machine}{e:bD}{BF:St}(h:XEnd P ans fid B0 B1 w Z J ow sto b cs items m1 e BF)(hs:Steps P m m1):XEnd P ans fid B0 B1 w Z J ow sto b cs items m e BF:=by
 obtain⟨w',Z',J',AP,tmps',DE,h1,h2,h3,h4,h5,h6⟩:=h;exact⟨w',Z',J',AP,tmps',DE,h1,h2,h3,h4,h5,h6.head hs⟩
theorem XEnd.pre{fid:FuncId}{B1:Nat}{sto HL:AN}{b:Frame}{cs:List Frame}{items:List Item}{m:Machine}{e:bD}{BF:St}{w1:World}{Z1:HT}{J1:List Nat}{BX:Own}(h:XEnd P ans fid B0 B1 w1 Z1 J1 BX HL b cs items m e BF)(h1:Fr w Z ow w1 Z1 BX)(h2:AM.pre J J1)(h3:StoLe sto HL):XEnd P ans fid B0 B1 w Z J ow sto b cs items m e BF:=by
 obtain⟨w',Z',J',AP,tmps',DE,a1,a2,a3,a4,a5,a6⟩:=h;exact⟨w',Z',J',AP,tmps',DE,a1,a2,h1.trans a3,iU h2 a4,h3.trans a5,a6⟩
def fm(P:Program)(ans:FuncId->AK)(B0:Nat)(lp:aP):Prop :=
 ∀fid c st e BF,lp fid c st=some (e,BF)->∀B1 w Z J ow tmps ds b cs items,b.fn=fid->(b.roundOf=none\/cD c=true)->At P ans fid B0 w Z J ow st tmps->Marks w ow B1 b ds->B1<=w.heap.size ->
  XEnd P ans fid B0 B1 w Z J ow st.sto b cs items (lone (b.atR ⟨tmps,ds⟩ (.code c::.inLoop c::items)) cs w) e BF
theorem oF{b:Frame}{a:Act}{k:List Item}{cs:List Frame}{c:Code}:step P (lone (b.atR a (.code (.scope c)::k)) cs w)=.next (lone (b.atR a (.code c::.inScope c::k)) cs w) :=
 step_lone_go (by simp[stepG,stepG.exec,Frame.atR])
theorem lE{b:Frame}{a:Act}{k:List Item}{cs:List Frame}{c:Code}:step P (lone (b.atR a (.inScope c::k)) cs w)=.next (lone (b.atR a k) cs w) :=
 step_lone_go (by simp[stepG,stepG.exec,Frame.atR])
theorem SRel.snap{t:Nat}{s:Slot}{v:Value}{w':World}{Z':HT}{J':List Nat}{tmps':Array Value}(h:SRel w B0 Z J ow tmps t s v)(hΨ:Z.le Z')(hp:pre J J'):SRel w' 0 Z' J' (λ_=>none) tmps' t (dV s) v:=by
 cases h with
 |dead=>exact .dead _
 |val x v h=>exact .val x v (h.mono hΨ hp)
 |tup=>exact .dead _
 |own sz xs v h=>exact .val _ _ (h.rel.mono hΨ (pre_nil _))
 |full xs a n h=>exact .full xs a n (h.mono hΨ (aI _))
 |nl=>exact .nl
 |nn xs a n c h=>exact .nn xs a n c (h.mono hΨ (aI _))
 |cells cs vs h=>exact .val _ _ (h.agg.mono hΨ hp)
 |box=>exact .dead _
 |ref=>exact .dead _
theorem aCz(s:Slot):dV (dV s)=dV s:=by cases s<;>rfl
theorem OsRel.front{objs:List AObj}(h:OsRel w B0 Z J ow ans objs)(n:Nat)(hn:n<=objs.length):OsRel w B0 Z (J.take n) ow ans (objs.take n):=by
 refine⟨by simp[h.1],λi o ho=>?_⟩;rw[Bm] at ho
 split at ho
 ·rename_i hi
  obtain⟨b,h1,h2⟩:=h.2 i o ho;refine⟨b,by rw[Bm,Bo hi];exact h1,h2.mono Z.le_refl ?_ (Same.refl _ _ _ _ _)⟩;rw[Hb,show min (i+1) n=i+1 by omega];exact aI _
 ·cases ho
end
section
variable {P:Program}{ans:FuncId->AK}{an:AK}{w:World}{B0:Nat}{Z:HT}{J:List Nat}{ow:Own}{tmps:Array Value}
theorem wD{α:Type}(l a b:List α)(o:Nat)(h:o+a.length<=l.length)(hl:b.length=a.length):overwrite (overwrite l o a) o b=overwrite l o b:=by
 apply Fp;intro j;rw[aR _ _ _ _ (by rw[aN _ _ _ h];omega),aR _ _ _ _ h,aR _ _ _ _ (by omega)];by_cases h1:j<o
 ·simp[h1]
 ·by_cases h2:j<o+b.length
  ·simp[h1,h2]
  ·simp only[h1,h2,Dd]
   rw[Ax (by omega)]
theorem gb(w:World)(x y:Obj):(w.alloc x).putObj w.heap.size y=w.alloc y:=by
 simp only[World.alloc,World.putObj];congr 1;apply Eh;intro j;rw[Fb];by_cases hj:w.heap.size=j
 ·subst hj;simp
 ·rw[Ax hj]
  simp only[Gl];rw[Ax (Co hj),Ax (Co hj)]
theorem qa{E:Nat->Slot}{objs:List AObj}(h:Rel P ans B0 w Z J ow an E tmps objs){sz n:Nat}{xs ys:List AVal}{v:Value}(ho:OwnRel w B0 Z ow (false,an.nt,1) sz xs v)
  {yv zv:List Value} (LG:∀y∈ys,y.cells.length=sz) (FY:ys.length=n) (P8:0<n) (yl:yv.length=n*sz) (y1:∀u∈yv,oneC u=true) (yr:∀(p:Nat) c u,(aM ys)[p]?=some c->yv[p]?=some u->flat c=true/\VRel Z [] c u)
  (zl:zv.length=n*sz) (z1:∀u∈zv,oneC u=true) {xa:Option Addr} {xcap:Nat} (zc:∀w1:World,w1.heap=w.heap->(Builtin.firstCells sz n (.slice xa n xcap)).run P w1=.ok ⟨zv⟩ w1)
  {ts:Array TypeId} {ty t1 t2 e e2:TypeId} (h1:ts[0]?=some t1) (h2:ts[1]?=some t2) (D9:P.underlying t1=some (.slice e)) (DQ:P.underlying t2=some (.slice e2)) (BG:bA P e=some sz) (CR:0<sz)
  {z:Value} (hz:(P.info? e).bind (·.zero)=some z) (HD:z.cells.size=sz) (JJ:aU P e<=16384) (G4:0<aU P e) (DV:xs.length+ys.length<=room) :
  ∃b o cap cs E' w1 w2 Z' AP,(Builtin.append_ ts ty #[v,.slice xa n xcap]).run P w=.ok (.slice (some ⟨b,o,none⟩) (xs.length+n) cap) w1/\w1.heap[b]?=some (.cells ⟨cs⟩ E' (0,0))/\o+(xs.length+n)*sz<=cs.length /\
   w2=w1.putObj b (.cells ⟨overwrite cs (o+xs.length*sz) yv⟩ E' (0,0))/\Rel P ans B0 w2 Z' J AP an E tmps objs/\OwnRel w2 B0 Z' AP (false,an.nt,1) sz (xs++ys) (.slice (some ⟨b,o,none⟩) (xs.length+n) cap)/\Fr w Z ow w2 Z' AP /\
   AP b=some (false,an.nt,1)/\(∀b',b'≠b->b'<w.heap.size->w1.heap[b']?=w.heap[b']?)/\(∀b',b'<w.heap.size->AP b'=ow b'):=by
 obtain⟨hx,C9,base,AJ,BH,rfl,CX⟩:=ho;obtain⟨hl,MJ,nN⟩:=hx.rows C9;have ID:∀i,P.info? e=some i->i.bytes=aU P e:=λi hi=>by simp[aU,hi]
 obtain⟨ti,D0⟩:∃ti,P.info? e=some ti:=by
  cases hi:P.info? e with
  |none=>simp[hi] at hz
  |some ti=>exact⟨ti,rfl⟩
 have Jb:∀u∈xs++ys,u.cells.length=sz:=λu hu=>by
  rcases Bs.1 hu with hu|hu
  ·exact C9 u hu
  ·exact LG u hu
 have hflen:(aM xs).length=AJ*sz:=by rw[bS C9,hl]
 have hylen:(aM ys).length=n*sz:=by rw[bS LG,FY]
 rw[hl];by_cases CE:AJ+n<=BH
 ·
  have AR:¬AJ=BH:=by omega
  rcases CX with CX|⟨b,o,cs,E',rfl,BP,hh,hB,GG,B9⟩
  ·exact absurd CX.2 AR
  obtain⟨cs⟩:=cs;have hcap':o+BH*sz<=cs.length:=by simpa using GG
  have hmul:(AJ+n)*sz<=BH*sz:=Cr _ CE;have hmul2:(AJ+n)*sz=AJ*sz+n*sz:=Ct _ _ _;have E0:b<w.heap.size:=(Ad.1 hh).1;have A7:=b9 (P:=P) (T:=E') zv (o+AJ*sz) 0 w cs hh z1 (by rw[zl];omega);rw[Bk] at A7;have DJ:(w.putObj b (.cells ⟨overwrite cs (o+AJ*sz) zv⟩ E' (0,0))).heap[b]?=some (.cells ⟨overwrite cs (o+AJ*sz) zv⟩ E' (0,0)):=World.putObj_heap_same E0
  have htw:(w.putObj b (.cells ⟨overwrite cs (o+AJ*sz) zv⟩ E' (0,0))).putObj b (.cells ⟨overwrite (overwrite cs (o+AJ*sz) zv) (o+AJ*sz) yv⟩ E' (0,0))=w.putObj b (.cells ⟨overwrite cs (o+AJ*sz) yv⟩ E' (0,0)):=by
   rw[qH,wD _ _ _ _ (by rw[zl];omega) (by rw[yl,zl])]
  generalize C4:w.putObj b (.cells ⟨overwrite cs (o+AJ*sz) yv⟩ E' (0,0))=w' at htw;have CZ:w'.heap[b]?=some (.cells ⟨overwrite cs (o+AJ*sz) yv⟩ E' (0,0)):=by rw[<-C4];exact World.putObj_heap_same E0
  have DA:∀b',b'≠b->w'.heap[b']?=w.heap[b']?:=λb' AX=>by rw[<-C4];exact World.putObj_heap_other AX
  have hsize:w'.heap.size=w.heap.size:=by rw[<-C4];simp
  let Z':HT:=λb' o'=>if b'=b/\o+AJ*sz<=o'/\o'<o+AJ*sz+n*sz then(λc=>(aM ys)[o'-(o+AJ*sz)]?=some c) else Z b' o'
  have hle:Z.le Z':=λb' o' c hc=>by
   have:¬(b'=b/\o+AJ*sz<=o'/\o'<o+AJ*sz+n*sz):=λ⟨e1,e2,_⟩=>by subst e1;rw[B9 o' e2] at hc;exact hc
   simp only[Z',Ax this];exact hc
  have NV:∀b',b'≠b->∀o',Z' b' o'=Z b' o':=λb' AX o'=>by simp[Z',AX]
  have B4:∀kk i,¬(kk=false/\i=an.nt)->Same w Z ow w' Z' ow kk i kk i:=λkk i hk b' s AX=>by
   have BD:b'≠b:=λe=>by subst e;rw[BP] at AX;simp only[Ak,Bp] at AX;exact hk ⟨AX.1.symm,AX.2.1.symm⟩
   exact⟨AX,DA b' BD,λo' DL=>by rw[NV b' BD];exact DL⟩
  have VM:WSat Z' w':=⟨by rw[hsize];exact h.wsat.size8,h.wsat.glob.mono hle,by
   obtain⟨c5,t5,f5,k1,k2⟩:=h.wsat.len5;by_cases h5:5=b
   ·subst h5
    rw[hh] at k1;cases k1;exact⟨_,_,_,CZ,by rw[Fo,aN _ _ _ (by rw[yl];omega)];simpa using k2⟩
   ·exact⟨c5,t5,f5,(DA 5 h5).trans k1,k2⟩,λb' o' c hc=>by
   by_cases AX:b'=b
   ·subst AX
    by_cases GN:o+AJ*sz<=o'/\o'<o+AJ*sz+n*sz
    ·simp only[Z',GN,and_self,Fi,Dk] at hc
     have hp:o'-(o+AJ*sz)<yv.length:=by rw[yl];omega
     obtain⟨f1,f2⟩:=yr _ c yv[o'-(o+AJ*sz)] hc (by simp[hp]);refine⟨f1,yv[o'-(o+AJ*sz)],?_,f2.mono hle (aI _)⟩;rw[cell_of_heap CZ,aR _ _ _ _ (by rw[yl];omega),Ax (by omega),Bo (by rw[yl];omega)];simp[hp]
    ·have CA:Z b' o' c:=by
      have:¬(b'=b'/\o+AJ*sz<=o'/\o'<o+AJ*sz+n*sz):=λe=>GN e.2
      simpa only[Z',Ax this] using hc
     have AW:o'<o+AJ*sz:=by
      rcases Ck o' (o+AJ*sz) with h'|h'
      ·exact h'
      ·rw[B9 o' h'] at CA;exact(CA:False).elim
     obtain⟨f1,u,f2,f3⟩:=h.wsat.sat b' o' c CA;refine⟨f1,u,?_,f3.mono hle (aI _)⟩;rw[cell_of_heap hh] at f2;rw[cell_of_heap CZ,aR _ _ _ _ (by rw[yl];omega),Bo AW];exact f2
   ·rw[NV b' AX] at hc
    obtain⟨f1,u,f2,f3⟩:=h.wsat.sat b' o' c hc;exact⟨f1,u,(cell_congr (DA b' AX) o').trans f2,f3.mono hle (aI _)⟩⟩
  refine⟨b,o,BH,overwrite cs (o+AJ*sz) zv,E',w.putObj b (.cells ⟨overwrite cs (o+AJ*sz) zv⟩ E' (0,0)),w',Z',ow,?_,DJ,by rw[aN _ _ _ (by rw[zl];omega)];omega,htw.symm,?_,?_,?_,BP,λb' AX _=>World.putObj_heap_other AX,λ_ _=>rfl⟩
  ·simp[Builtin.append_,h1,h2,run_underlying D9,run_underlying DQ,run_sizeOf BG,Builtin.lenOf,zc w rfl,CE,cF,A7]
  ·refine⟨h.size,VM,λu=>?_,h.refs,h.boxes,h.objs.mono hle (λi _=>B4 true i (by simp)),λb' AX=>by rw[hsize];exact h.lt b' AX,by rw[hsize];exact h.base,h.hi⟩
   rcases Ck u an.nt with hu|hu
   ·exact(h.slots u).mono hle (aI _) (B4 false u (by simp;omega)) (λ_ _ _=>rfl)
   ·rw[h.hi u hu];exact .dead _
  ·refine⟨?_,Jb,_,_,_,rfl,.inr ⟨b,o,_,E',rfl,BP,CZ,hB,?_,?_⟩⟩
   ·refine .of_rows (s:=sz) (by simp[hl,FY]) CE Jb λ_=>⟨b,o,rfl,λp c hc=>?_⟩
    rw[fM,Cf,hflen] at hc
    split at hc
    ·rename_i hp
     have Mg:xs≠[]:=by intro e;subst e;simp at hl;subst hl;simp at hp
     obtain⟨b1,o1,e1,ht⟩:=nN Mg;obtain⟨rfl,rfl⟩:b=b1/\o=o1:=by simpa using e1
     exact hle _ _ _ (ht p c hc)
    ·rename_i hp
     have E6:p-AJ*sz<n*sz:=by rw[<-hylen];exact(Ab.1 hc).1
     have:b=b/\o+AJ*sz<=o+p/\o+p<o+AJ*sz+n*sz:=⟨rfl,by omega,by omega⟩
     simp only[Z',Bo this];rw[show o+p-(o+AJ*sz)=p-AJ*sz by omega];exact hc
   ·show o+BH*sz<=(overwrite cs (o+AJ*sz) yv).length
    rw[aN _ _ _ (by rw[yl];omega)];exact hcap'
   ·intro o' DL
    have:¬(b=b/\o+AJ*sz<=o'/\o'<o+AJ*sz+n*sz):=λe=>by have:=e.2.2;omega
    simp only[Z',Ax this];exact B9 o' (by omega)
  ·exact⟨hle,by rw[hsize];exact Ae _,λb' _ AX=>by
    have BD:b'≠b:=λe=>by subst e;rw[BP] at AX;cases AX
    exact⟨DA b' BD,NV b' BD⟩,λ_ AX=>.inl AX,by rw[<-C4];rfl,by rw[<-C4];rfl,by rw[<-C4];rfl⟩
 ·
  obtain⟨xv,xl,xc,xr⟩:∃xv:List Value,xv.length=AJ*sz/\(∀w1:World,w1.heap=w.heap->(Builtin.firstCells sz AJ (.slice base AJ BH)).run P w1=.ok ⟨xv⟩ w1)/\∀(p:Nat) c u,(aM xs)[p]?=some c->xv[p]?=some u->flat c=true/\VRel Z [] c u:=by
   by_cases BD:xs=[]
   ·subst BD
    simp at hl;subst hl;refine⟨[],by simp,λw1 _=>?_,by simp⟩;cases base with
    |none=>simp[Builtin.firstCells]
    |some a=>simp[Builtin.firstCells,loadCells,loadCellsFrom]
   ·obtain⟨b,o,rfl,ht⟩:=nN BD
    obtain⟨xv,l1,l2,_,l4⟩:=h.wsat.row ht;have hxl:xv.length=AJ*sz:=by rw[l1,hflen]
    exact⟨xv,hxl,λw1 e=>dD hxl (λp u hu=>(cell_congr (by rw[e]) _).trans (l2 p u hu)),l4⟩
  have HU:=nextslicecap_le (need:=AJ+n) (c:=BH) (by omega);have hroom':AJ+n<=4294967296:=by rw[<-hl,<-FY];exact DV
  have hby':aU P e=ti.bytes:=(ID ti D0).symm
  have Hr:¬Builtin.nextslicecap (AJ+n) BH*ti.bytes>2^48:=by
   have h1:Builtin.nextslicecap (AJ+n) BH*ti.bytes<=(2*(AJ+n)+512)*16384:=Gh HU (by rw[<-hby'];exact JJ);omega
  have GZ:¬ti.bytes=0:=by rw[<-hby'];omega
  obtain⟨AQ,hnc,G3⟩:∃AQ,AJ+n<=AQ/\(Question.appendCap (AJ+n) BH e).cut (w.tape w.drawn (Question.appendCap (AJ+n) BH e))=AQ :=
   ⟨_,by simp only[Question.cut];omega,rfl⟩
  obtain⟨w1,DJ⟩:∃w1,w1=w.drew:=⟨_,rfl⟩
  have hw1h:w1.heap=w.heap:=by rw[DJ];rfl
  have hw1o:w1.os=w.os:=by rw[DJ];rfl
  have hw1t:w1.tape=w.tape:=by rw[DJ];rfl
  have hw1u:w1.output=w.output:=by rw[DJ];rfl
  have NL:(Question.appendCap (AJ+n) BH e).forced=false:=rfl;have h':=h.heap hw1h
  let CS:List Value:=xv++zv++(Builtin.zeroCells z.cells (AQ-(AJ+n))).toList
  let cells:List Value:=xv++yv++(Builtin.zeroCells z.cells (AQ-(AJ+n))).toList
  have B5:cells.length=AQ*sz:=by
   have e1:AQ*sz=(AJ+n)*sz+(AQ-(AJ+n))*sz:=by rw[<-Ct];congr 1;omega
   simp only[cells,Bu,xl,yl,Fh,iC,HD];rw[e1,Ct]
  have hcl0:CS.length=AQ*sz:=by
   rw[<-B5];simp only[cells,CS,Bu,yl,zl]
  have ME:overwrite CS (0+AJ*sz) yv=cells:=by
   simp only[CS,cells,overwrite,Bn,<-xl,As,List.take_left];congr 2;rw[<-As,List.drop_append,Dn (by simp[zl,yl])];simp[zl,yl]
  have hmulc:(AJ+n)*sz<=AQ*sz:=Cr _ hnc
  have AZ:(Builtin.append_ ts ty #[.slice base AJ BH,.slice xa n xcap]).run P w=.ok (.slice (some ⟨w1.heap.size,0,none⟩) (AJ+n) AQ) (w1.alloc (.cells ⟨CS⟩ e)):=by
   simp only[Builtin.append_,Sem.run_bind,h1,h2];simp[run_underlying D9,run_underlying DQ,run_sizeOf BG,Builtin.lenOf,CE,run_typeInfo D0,GZ,Hr,NL,G3,<-DJ,xc w1 hw1h,zc w1 hw1h,aS hz,newRow,CS];congr 2;apply Cg;simp
  let τ:Nat->Option AVal:=λoff=>(aM (xs++ys))[off]?
  have hτ:∀off c,τ off=some c->flat c=true/\∃u,(w1.alloc (.cells ⟨cells⟩ e)).cell? ⟨w1.heap.size,off,none⟩=some u/\VRel Z [] c u:=λoff c hc=>by
   have CG:(w1.alloc (.cells ⟨cells⟩ e)).cell? ⟨w1.heap.size,off,none⟩=cells[off]?:=cell_of_heap (heap_alloc_new _) off;simp only[τ] at hc;rw[fM,Cf,hflen] at hc
   split at hc
   ·rename_i hp
    have FC:off<xv.length:=by rw[xl];exact hp
    obtain⟨f1,f2⟩:=xr off c xv[off] hc (by simp[FC]);refine⟨f1,xv[off],?_,f2⟩;rw[CG];simp only[cells,As];rw[Bg FC];simp[FC]
   ·rename_i hp
    have E6:off-AJ*sz<yv.length:=by rw[yl,<-hylen];exact(Ab.1 hc).1
    obtain⟨f1,f2⟩:=yr _ c yv[off-AJ*sz] hc (by simp[E6]);refine⟨f1,yv[off-AJ*sz],?_,f2⟩;rw[CG];simp only[cells,As];rw[Bh (by rw[xl];omega),xl,Bg E6];simp[E6]
  have hR:=h'.alloc (o:=.cells ⟨cells⟩ e) (τ:=τ) (id:=some (false,an.nt,1)) hτ;have IB:w1.alloc (.cells ⟨cells⟩ e)=(w1.alloc (.cells ⟨CS⟩ e)).putObj w1.heap.size (.cells ⟨overwrite CS (0+AJ*sz) yv⟩ e (0,0)):=by rw[ME,gb]
  refine⟨w1.heap.size,0,AQ,CS,e,w1.alloc (.cells ⟨CS⟩ e),_,_,_,AZ,heap_alloc_new _,by rw[hcl0];omega,IB,hR,⟨?_,Jb,_,_,_,rfl,.inr ⟨w1.heap.size,0,⟨cells⟩,e,rfl,by simp[oset],heap_alloc_new _,h'.base,by simpa using Nat.le_of_eq B5.symm,?_⟩⟩,?_,by simp[oset],λb' _ AX=>?_,λb' AX=>?_⟩
  ·refine .of_rows (s:=sz) (by simp[hl,FY]) hnc Jb λ_=>⟨_,_,rfl,λp c hc=>?_⟩
   simpa[dA,τ] using hc
  ·intro o' DL
   simp only[dA,Dk,τ]
   have KO:(aM (xs++ys))[o']?=none:=by
    rw[Cy,bS Jb];simp[hl,FY] at DL ⊢;omega
   rw[KO];funext c;exact propext ⟨λe=>(by cases e),λe=>(e:False).elim⟩
  ·exact(Fr.heap hw1h hw1o hw1t hw1u).trans (Fr.alloc h'.wsat)
  ·rw[heap_alloc_old _ (by rw[hw1h];exact AX),hw1h]
  ·unfold oset
   rw[Ax (by rw[hw1h];omega)]
end
section
variable {P:Program}{w:World}
def SH(es:List (List Nat))(listed:List Bool):List Nat:=(List.range es.length).filter λi=>!(listed.getD i true)&&(es.getD i []).all λe=>listed.getD e false
def orders(es:List (List Nat)):Nat->List Bool->List (List Nat)
 |0,_=>[[]]
 |f+1,l=>match SH es l with
  |[]=>[[]]
  |r::rs=>(r::rs).flatMap λi=>(orders es f (l.set i true)).map (i::·)
theorem nA{α:Type}(p:α->Bool)(g:α->Nat)(q:Nat->Bool):∀l:List α,((l.filter p).map g).all q=l.all λe=>!p e||q (g e)
 |[]=>rfl
 |a::l=>by
  cases h:p a<;>simp[h,nA p g q l]
theorem ea{ops:Array Oper}{es:List (List Nat)}(hl:es.length=ops.size)(B3:∀(i:Nat)(o:Oper),ops[i]?=some o->es.getD i []=fD o):∀(fuel t:Nat)(listed:Array Bool)(acc:List Nat),
  ∃q∈orders es fuel listed.toList,Region.linearise.go .any ops fuel t listed acc=acc.reverse++q
 |0,t,listed,acc=>⟨[],by simp[orders],by simp[Region.linearise.go]⟩
 |fuel+1,t,listed,acc=>by
  have hr:((List.range ops.size).filter λi=>!listed.getD i true&&((ops[i]?).map (·.after.all λe=>!Region.binds .any e||listed.getD e.on false)).getD false)=SH es listed.toList:=by
   unfold SH;rw[hl];apply List.filter_congr;intro i hi;have EJ:=Cq.1 hi;rw[Az EJ,B3 i _ (Az EJ)];simp only[Bw,Cn,fD,nA,<-Ed];simp[Af,Br]
  simp only[Region.linearise.go,hr,orders];cases hR:SH es listed.toList with
  |nil=>exact⟨[],by simp,by simp⟩
  |cons r rs =>
   simp only;cases hi:(r::rs)[t%(r::rs).length]? with
   |none =>
    exfalso;rw[Cy] at hi
    have:=Fc t (y:=(r::rs).length) (by simp)
    omega
   |some i =>
    simp only;obtain⟨q,hq,he⟩:=ea hl B3 fuel (t/(r::rs).length) (listed.setIfInBounds i true) (i::acc);refine⟨i::q,List.mem_flatMap.2 ⟨i,Be hi,Cu.2 ⟨q,by simpa using hq,rfl⟩⟩,?_⟩;rw[he];simp
structure Is (o:Oper) (d:Option Nat) (op:Op):Prop where
 dst:o.dst=d
 op:o.op=op
 gd:o.guard=none
theorem Is.eq{o:Oper}{d:Option Nat}{op:Op}(h:Is o d op):o=⟨d,op,o.type,o.pos,o.after,none⟩:=by
 cases o;cases h;simp_all
section
variable {b:Frame}{tm:Array Value}{ds:List Deferred}{k:List Item}{cs:List Frame}{ops:Array Oper}{i:Nat}{rest:List Nat}{o:Oper}{w':World}{d:Option Nat}{op:Op}
theorem iY{v:Value}(ho:ops[i]?=some o)(hI:Is o d op)(hd:∀c,op≠.defer c)(hr:(execOp (⟨tm,ds⟩:Act).eval ⟨d,op,o.type,o.pos,o.after,none⟩).run P w=.ok (.value v) w') :
  Steps P (lone (b.atR ⟨tm,ds⟩ (.inRegion ops (i::rest)::k)) cs w) (lone (b.atR ((⟨tm,ds⟩:Act).put d v) (.inRegion ops rest::k)) cs w'):=by
 have h1:(execOp (⟨tm,ds⟩:Act).eval o).run P w=.ok (.value v) w':=by rw[hI.eq];exact hr
 have:=Steps.one (dI (b:=b) (a:=⟨tm,ds⟩) (k:=k) (cs:=cs) (rest:=rest) ho (by unfold Region.wanted;rw[hI.gd]) (by rw[hI.op];exact hd) h1)
 rw[hI.dst] at this;exact this
theorem aBi(ho:ops[i]?=some o)(hI:Is o none op)(hd:∀c,op≠.defer c)(hr:(execOp (⟨tm,ds⟩:Act).eval ⟨none,op,o.type,o.pos,o.after,none⟩).run P w=.ok .skip w') :
  Steps P (lone (b.atR ⟨tm,ds⟩ (.inRegion ops (i::rest)::k)) cs w) (lone (b.atR ⟨tm,ds⟩ (.inRegion ops rest::k)) cs w'):=by
 have h1:(execOp (⟨tm,ds⟩:Act).eval o).run P w=.ok .skip w':=by rw[hI.eq];exact hr
 have:=Steps.one (fR (b:=b) (a:=⟨tm,ds⟩) (k:=k) (cs:=cs) (rest:=rest) ho (by unfold Region.wanted;rw[hI.gd]) (by rw[hI.op];exact hd) h1)
 rw[hI.dst] at this;exact this
end
theorem vU(w:World){b c:Nat}(h:b≠c)(x y:Obj):(w.putObj b x).putObj c y=(w.putObj c y).putObj b x:=by
 simp only[World.putObj];congr 1;apply Eh;intro j;simp only[Fb,Array.size_setIfInBounds];by_cases h1:b=j
 ·subst h1
  simp[Co h]
 ·by_cases h2:c=j
  ·subst h2;simp[h]
  ·simp[h1,h2]
structure App (ops:Array Oper) (s e:TypeId) (z:Value):Prop where
 size:ops.size=8
 i0:∃o,ops[0]?=some o/\Is o (some 8) (.load s (.tmp 2))/\fD o=[]
 i1:∃o,ops[1]?=some o/\Is o (some 9) (.load e (.tmp 5))/\fD o=[]
 i2:∃o,ops[2]?=some o/\Is o (some 10) (.call ⟨.builtin .len,#[.tmp 8],#[s]⟩)/\fD o=[0]
 i3:∃o,ops[3]?=some o/\Is o (some 11) (.buildSlice s 1 #[(0,.const z)])/\fD o=[]
 i4:∃o,ops[4]?=some o/\Is o (some 12) (.call ⟨.builtin .append,#[.tmp 8,.tmp 11],#[s,s]⟩)/\fD o=[0,3,0,1,2,3]
 i5:∃o,ops[5]?=some o/\Is o (some 13) (.indexAddr s (.tmp 12) (.tmp 10))/\fD o=[4,2,0,1,2,3,4]
 i6:∃o,ops[6]?=some o/\Is o none (.store e (.tmp 13) (.tmp 9))/\fD o=[5,1,4,0,1,2,3,4]
 i7:∃o,ops[7]?=some o/\Is o none (.store s (.tmp 2) (.tmp 12))/\fD o=[4,4,0,1,2,3,4]
def appEs:List (List Nat):=[[],[],[0],[],[0,3,0,1,2,3],[4,2,0,1,2,3,4],[5,1,4,0,1,2,3,4],[4,4,0,1,2,3,4]]
def UZ:List (List Nat):=[[0,1,2,3],[0,1,3,2],[0,2,1,3],[0,2,3,1],[0,3,1,2],[0,3,2,1],[1,0,2,3],[1,0,3,2],[1,3,0,2],[3,0,1,2],[3,0,2,1],[3,1,0,2]]
def U0:List (List Nat):=[[4,5,6,7],[4,5,7,6],[4,7,5,6]]
theorem App.orders{ops:Array Oper}{s e:TypeId}{z:Value}(h:App ops s e z)(t:Nat):∃p∈UZ,∃q∈U0,Region.linearise .any ops t=p++q:=by
 have B3:∀(i:Nat)(o:Oper),ops[i]?=some o->appEs.getD i []=fD o:=λi o ho=>by
  have hi:i<8:=by have:=(Ad.1 ho).1;rw[h.size] at this;exact this
  obtain⟨o0,a0,_,c0⟩:=h.i0;obtain⟨o1,a1,_,c1⟩:=h.i1;obtain⟨o2,a2,_,c2⟩:=h.i2;obtain⟨o3,a3,_,c3⟩:=h.i3;obtain⟨o4,a4,_,c4⟩:=h.i4;obtain⟨o5,a5,_,c5⟩:=h.i5;obtain⟨o6,a6,_,c6⟩:=h.i6;obtain⟨o7,a7,_,c7⟩:=h.i7
  match i,hi with
  |0,_=>rw[a0] at ho;cases ho;rw[c0];rfl
  |1,_=>rw[a1] at ho;cases ho;rw[c1];rfl
  |2,_=>rw[a2] at ho;cases ho;rw[c2];rfl
  |3,_=>rw[a3] at ho;cases ho;rw[c3];rfl
  |4,_=>rw[a4] at ho;cases ho;rw[c4];rfl
  |5,_=>rw[a5] at ho;cases ho;rw[c5];rfl
  |6,_=>rw[a6] at ho;cases ho;rw[c6];rfl
  |7,_=>rw[a7] at ho;cases ho;rw[c7];rfl
 obtain⟨q,hq,he⟩:=ea (by rw[h.size];rfl) B3 ops.size t (Array.replicate ops.size false) []
 have e1:Region.linearise .any ops t=q:=by
  show Region.linearise.go .any ops ops.size t (Array.replicate ops.size false) []=q;rw[he];rfl
 rw[h.size] at hq;have e2:∀q∈AM.orders appEs 8 (List.replicate 8 false),∃p∈UZ,∃r∈U0,q=p++r:=by decide
 obtain⟨p,hp,r,hr,e3⟩:=e2 q (by simpa using hq);exact⟨p,hp,r,hr,e1.trans e3⟩
structure AppSt (tmps:Array Value) (w:World) (sv nv ev:Value) (len:Nat) (zb:Obj) (b0 b1 b2 b3:Bool) (tm:Array Value) (w':World):Prop where
 size:tm.size=tmps.size
 same:∀t,t<8\/14<=t->tm.getD t undef=tmps.getD t undef
 v0:b0=true->tm.getD 8 undef=sv
 v1:b1=true->tm.getD 9 undef=ev
 v2:b2=true->tm.getD 10 undef=.int .i64 len
 v3:b3=true->tm.getD 11 undef=nv
 wd:w'=bif b3 then w.alloc zb else w
section
variable {tmps tm:Array Value}{w w':World}{sv nv ev:Value}{len:Nat}{zb:Obj}{b0 b1 b2 b3:Bool}{fb:Frame}{ds:List Deferred}{k:List Item}{cs:List Frame}{ops:Array Oper}{rest:List Nat}{s e:TypeId}{z:Value}
theorem uv{d:Nat}{v:Value}(hd:d<tm.size)(t:Nat):(tm.setIfInBounds d v).getD t undef=if t=d then v else tm.getD t undef:=bZ tm d t v hd
theorem AppSt.put{d:Nat}{v:Value}{w2:World}{c0 c1 c2 c3:Bool}(h:AppSt tmps w sv nv ev len zb b0 b1 b2 b3 tm w')(hs:14<=tmps.size)(hd:8<=d/\d<14)
  (h0:c0=true->(d=8/\v=sv)\/(d≠8/\b0=true)) (h1:c1=true->(d=9/\v=ev)\/(d≠9/\b1=true)) (h2:c2=true->(d=10/\v=.int .i64 len)\/(d≠10/\b2=true)) (h3:c3=true->(d=11/\v=nv)\/(d≠11/\b3=true))
  (hw:w2=bif c3 then w.alloc zb else w):AppSt tmps w sv nv ev len zb c0 c1 c2 c3 (tm.setIfInBounds d v) w2:=by
 have hdt:d<tm.size:=by rw[h.size];omega
 have key:∀t x,((d=t/\v=x)\/(d≠t/\tm.getD t undef=x))->(tm.setIfInBounds d v).getD t undef=x:=λt x hx=>by
  rw[uv hdt];rcases hx with⟨rfl,rfl⟩|⟨h1,h2⟩
  ·rw[Bo rfl]
  ·rw[Ax (Co h1)];exact h2
 refine⟨by simp[h.size],λt ht=>?_,λc=>key _ _ ((h0 c).imp id λx=>⟨x.1,h.v0 x.2⟩),λc=>key _ _ ((h1 c).imp id λx=>⟨x.1,h.v1 x.2⟩),λc=>key _ _ ((h2 c).imp id λx=>⟨x.1,h.v2 x.2⟩),λc=>key _ _ ((h3 c).imp id λx=>⟨x.1,h.v3 x.2⟩),hw⟩;rw[uv hdt,Ax (by omega)];exact h.same t ht
structure cm (P:Program) (tmps:Array Value) (w:World) (s e:TypeId) (z:Value) (sv ev:Value) (len:Nat) (zb:Obj):Prop where
 size:14<=tmps.size
 l0:∀w':World,(w'=w\/w'=w.alloc zb)->∃a,tmps.getD 2 undef=.pointer (some a)/\(loadVar s a).run P w'=.ok sv w'
 l1:∀w':World,(w'=w\/w'=w.alloc zb)->∃a,tmps.getD 5 undef=.pointer (some a)/\(loadVar e a).run P w'=.ok ev w'
 l2:∃a cap,sv=.slice a len cap
 un:P.underlying s=some (.slice e)
 l3:(Instr.buildSlice s 1 #[(0,z)]).run P w=.ok (.slice (some ⟨w.heap.size,0,none⟩) 1 1) (w.alloc zb)
theorem eS(hA:App ops s e z)(hI:cm P tmps w s e z sv ev len zb)(h:AppSt tmps w sv (.slice (some ⟨w.heap.size,0,none⟩) 1 1) ev len zb b0 b1 b2 b3 tm w') :
  ∃BA,AppSt tmps w sv (.slice (some ⟨w.heap.size,0,none⟩) 1 1) ev len zb true b1 b2 b3 BA w'/\Steps P (lone (fb.atR ⟨tm,ds⟩ (.inRegion ops (0::rest)::k)) cs w') (lone (fb.atR ⟨BA,ds⟩ (.inRegion ops rest::k)) cs w'):=by
 obtain⟨o,ho,hi,_⟩:=hA.i0;have hw:w'=w\/w'=w.alloc zb:=by have:=h.wd;cases b3<;>simp_all
 obtain⟨a,ha,hl⟩:=hI.l0 w' hw;refine⟨_,h.put hI.size (d:=8) (v:=sv) (by omega) (λ_=>.inl ⟨rfl,rfl⟩) (λc=>.inr ⟨by omega,c⟩) (λc=>.inr ⟨by omega,c⟩) (λc=>.inr ⟨by omega,c⟩) h.wd,iY ho hi (λc e=>by cases e) ?_⟩;have h2:(⟨tm,ds⟩:Act).eval (.tmp 2)=.pointer (some a):=by rw[<-ha];exact h.same 2 (by omega)
 simp[execOp,Instr.loadAt,h2,Instr.sureAddr,hl]
theorem eR(hA:App ops s e z)(hI:cm P tmps w s e z sv ev len zb)(h:AppSt tmps w sv (.slice (some ⟨w.heap.size,0,none⟩) 1 1) ev len zb b0 b1 b2 b3 tm w') :
  ∃BA,AppSt tmps w sv (.slice (some ⟨w.heap.size,0,none⟩) 1 1) ev len zb b0 true b2 b3 BA w'/\Steps P (lone (fb.atR ⟨tm,ds⟩ (.inRegion ops (1::rest)::k)) cs w') (lone (fb.atR ⟨BA,ds⟩ (.inRegion ops rest::k)) cs w'):=by
 obtain⟨o,ho,hi,_⟩:=hA.i1;have hw:w'=w\/w'=w.alloc zb:=by have:=h.wd;cases b3<;>simp_all
 obtain⟨a,ha,hl⟩:=hI.l1 w' hw;refine⟨_,h.put hI.size (d:=9) (v:=ev) (by omega) (λc=>.inr ⟨by omega,c⟩) (λ_=>.inl ⟨rfl,rfl⟩) (λc=>.inr ⟨by omega,c⟩) (λc=>.inr ⟨by omega,c⟩) h.wd,iY ho hi (λc e=>by cases e) ?_⟩;have h2:(⟨tm,ds⟩:Act).eval (.tmp 5)=.pointer (some a):=by rw[<-ha];exact h.same 5 (by omega)
 simp[execOp,Instr.loadAt,h2,Instr.sureAddr,hl]
theorem gH(hA:App ops s e z)(hI:cm P tmps w s e z sv ev len zb)(h:AppSt tmps w sv (.slice (some ⟨w.heap.size,0,none⟩) 1 1) ev len zb true b1 b2 b3 tm w') :
  ∃BA,AppSt tmps w sv (.slice (some ⟨w.heap.size,0,none⟩) 1 1) ev len zb true b1 true b3 BA w'/\Steps P (lone (fb.atR ⟨tm,ds⟩ (.inRegion ops (2::rest)::k)) cs w') (lone (fb.atR ⟨BA,ds⟩ (.inRegion ops rest::k)) cs w'):=by
 obtain⟨o,ho,hi,_⟩:=hA.i2;obtain⟨a,cap,Nt⟩:=hI.l2;refine⟨_,h.put hI.size (d:=10) (v:=.int .i64 len) (by omega) (λc=>.inr ⟨by omega,c⟩) (λc=>.inr ⟨by omega,c⟩) (λ_=>.inl ⟨rfl,rfl⟩) (λc=>.inr ⟨by omega,c⟩) h.wd,iY ho hi (λc e=>by cases e) ?_⟩;have h2:(⟨tm,ds⟩:Act).eval (.tmp 8)=.slice a len cap:=by rw[<-Nt];exact h.v0 rfl
 simp[execOp,resolve,invoke,builtin,Builtin.len_,run_underlying hI.un,h2,goInt]
theorem gI(hA:App ops s e z)(hI:cm P tmps w s e z sv ev len zb)(h:AppSt tmps w sv (.slice (some ⟨w.heap.size,0,none⟩) 1 1) ev len zb b0 b1 b2 false tm w') :
  ∃BA,AppSt tmps w sv (.slice (some ⟨w.heap.size,0,none⟩) 1 1) ev len zb b0 b1 b2 true BA (w.alloc zb)/\Steps P (lone (fb.atR ⟨tm,ds⟩ (.inRegion ops (3::rest)::k)) cs w') (lone (fb.atR ⟨BA,ds⟩ (.inRegion ops rest::k)) cs (w.alloc zb)):=by
 obtain⟨o,ho,hi,_⟩:=hA.i3;refine⟨_,h.put hI.size (d:=11) (v:=.slice (some ⟨w.heap.size,0,none⟩) 1 1) (by omega) (λc=>.inr ⟨by omega,c⟩) (λc=>.inr ⟨by omega,c⟩) (λc=>.inr ⟨by omega,c⟩) (λ_=>.inl ⟨rfl,rfl⟩) rfl,iY ho hi (λc e=>by cases e) ?_⟩;have hw:w'=w:=h.wd;subst hw;have h9:(⟨tm,ds⟩:Act).eval (.const z)=z:=rfl;simp[execOp,h9,hI.l3]
theorem aGU(hA:App ops s e z)(hI:cm P tmps w s e z sv ev len zb){p:List Nat}(hp:p∈UZ) :
  ∃BA,AppSt tmps w sv (.slice (some ⟨w.heap.size,0,none⟩) 1 1) ev len zb true true true true BA (w.alloc zb)/\Steps P (lone (fb.atR ⟨tmps,ds⟩ (.inRegion ops (p++rest)::k)) cs w) (lone (fb.atR ⟨BA,ds⟩ (.inRegion ops rest::k)) cs (w.alloc zb)):=by
 have h0:AppSt tmps w sv (.slice (some ⟨w.heap.size,0,none⟩) 1 1) ev len zb false false false false tmps w:=⟨rfl,λ_ _=>rfl,by simp,by simp,by simp,by simp,rfl⟩
 simp only[UZ,Bb,Ce,Eb] at hp;rcases hp with rfl|rfl|rfl|rfl|rfl|rfl|rfl|rfl|rfl|rfl|rfl|rfl<;>simp only[Dl,Bl]
 ·obtain⟨t1,h1,s1⟩:=eS (fb:=fb) (ds:=ds) (k:=k) (cs:=cs) (rest:=1::2::3::rest) hA hI h0
  obtain⟨t2,h2,s2⟩:=eR (fb:=fb) (ds:=ds) (k:=k) (cs:=cs) (rest:=2::3::rest) hA hI h1;obtain⟨t3,h3,s3⟩:=gH (fb:=fb) (ds:=ds) (k:=k) (cs:=cs) (rest:=3::rest) hA hI h2;obtain⟨t4,h4,s4⟩:=gI (fb:=fb) (ds:=ds) (k:=k) (cs:=cs) (rest:=rest) hA hI h3;exact⟨t4,h4,s1.trans (s2.trans (s3.trans s4))⟩
 ·obtain⟨t1,h1,s1⟩:=eS (fb:=fb) (ds:=ds) (k:=k) (cs:=cs) (rest:=1::3::2::rest) hA hI h0
  obtain⟨t2,h2,s2⟩:=eR (fb:=fb) (ds:=ds) (k:=k) (cs:=cs) (rest:=3::2::rest) hA hI h1;obtain⟨t3,h3,s3⟩:=gI (fb:=fb) (ds:=ds) (k:=k) (cs:=cs) (rest:=2::rest) hA hI h2;obtain⟨t4,h4,s4⟩:=gH (fb:=fb) (ds:=ds) (k:=k) (cs:=cs) (rest:=rest) hA hI h3;exact⟨t4,h4,s1.trans (s2.trans (s3.trans s4))⟩
 ·obtain⟨t1,h1,s1⟩:=eS (fb:=fb) (ds:=ds) (k:=k) (cs:=cs) (rest:=2::1::3::rest) hA hI h0
  obtain⟨t2,h2,s2⟩:=gH (fb:=fb) (ds:=ds) (k:=k) (cs:=cs) (rest:=1::3::rest) hA hI h1;obtain⟨t3,h3,s3⟩:=eR (fb:=fb) (ds:=ds) (k:=k) (cs:=cs) (rest:=3::rest) hA hI h2;obtain⟨t4,h4,s4⟩:=gI (fb:=fb) (ds:=ds) (k:=k) (cs:=cs) (rest:=rest) hA hI h3;exact⟨t4,h4,s1.trans (s2.trans (s3.trans s4))⟩
 ·obtain⟨t1,h1,s1⟩:=eS (fb:=fb) (ds:=ds) (k:=k) (cs:=cs) (rest:=2::3::1::rest) hA hI h0
  obtain⟨t2,h2,s2⟩:=gH (fb:=fb) (ds:=ds) (k:=k) (cs:=cs) (rest:=3::1::rest) hA hI h1;obtain⟨t3,h3,s3⟩:=gI (fb:=fb) (ds:=ds) (k:=k) (cs:=cs) (rest:=1::rest) hA hI h2;obtain⟨t4,h4,s4⟩:=eR (fb:=fb) (ds:=ds) (k:=k) (cs:=cs) (rest:=rest) hA hI h3;exact⟨t4,h4,s1.trans (s2.trans (s3.trans s4))⟩
 ·obtain⟨t1,h1,s1⟩:=eS (fb:=fb) (ds:=ds) (k:=k) (cs:=cs) (rest:=3::1::2::rest) hA hI h0
  obtain⟨t2,h2,s2⟩:=gI (fb:=fb) (ds:=ds) (k:=k) (cs:=cs) (rest:=1::2::rest) hA hI h1;obtain⟨t3,h3,s3⟩:=eR (fb:=fb) (ds:=ds) (k:=k) (cs:=cs) (rest:=2::rest) hA hI h2;obtain⟨t4,h4,s4⟩:=gH (fb:=fb) (ds:=ds) (k:=k) (cs:=cs) (rest:=rest) hA hI h3;exact⟨t4,h4,s1.trans (s2.trans (s3.trans s4))⟩
 ·obtain⟨t1,h1,s1⟩:=eS (fb:=fb) (ds:=ds) (k:=k) (cs:=cs) (rest:=3::2::1::rest) hA hI h0
  obtain⟨t2,h2,s2⟩:=gI (fb:=fb) (ds:=ds) (k:=k) (cs:=cs) (rest:=2::1::rest) hA hI h1;obtain⟨t3,h3,s3⟩:=gH (fb:=fb) (ds:=ds) (k:=k) (cs:=cs) (rest:=1::rest) hA hI h2;obtain⟨t4,h4,s4⟩:=eR (fb:=fb) (ds:=ds) (k:=k) (cs:=cs) (rest:=rest) hA hI h3;exact⟨t4,h4,s1.trans (s2.trans (s3.trans s4))⟩
 ·obtain⟨t1,h1,s1⟩:=eR (fb:=fb) (ds:=ds) (k:=k) (cs:=cs) (rest:=0::2::3::rest) hA hI h0
  obtain⟨t2,h2,s2⟩:=eS (fb:=fb) (ds:=ds) (k:=k) (cs:=cs) (rest:=2::3::rest) hA hI h1;obtain⟨t3,h3,s3⟩:=gH (fb:=fb) (ds:=ds) (k:=k) (cs:=cs) (rest:=3::rest) hA hI h2;obtain⟨t4,h4,s4⟩:=gI (fb:=fb) (ds:=ds) (k:=k) (cs:=cs) (rest:=rest) hA hI h3;exact⟨t4,h4,s1.trans (s2.trans (s3.trans s4))⟩
 ·obtain⟨t1,h1,s1⟩:=eR (fb:=fb) (ds:=ds) (k:=k) (cs:=cs) (rest:=0::3::2::rest) hA hI h0
  obtain⟨t2,h2,s2⟩:=eS (fb:=fb) (ds:=ds) (k:=k) (cs:=cs) (rest:=3::2::rest) hA hI h1;obtain⟨t3,h3,s3⟩:=gI (fb:=fb) (ds:=ds) (k:=k) (cs:=cs) (rest:=2::rest) hA hI h2;obtain⟨t4,h4,s4⟩:=gH (fb:=fb) (ds:=ds) (k:=k) (cs:=cs) (rest:=rest) hA hI h3;exact⟨t4,h4,s1.trans (s2.trans (s3.trans s4))⟩
 ·obtain⟨t1,h1,s1⟩:=eR (fb:=fb) (ds:=ds) (k:=k) (cs:=cs) (rest:=3::0::2::rest) hA hI h0
  obtain⟨t2,h2,s2⟩:=gI (fb:=fb) (ds:=ds) (k:=k) (cs:=cs) (rest:=0::2::rest) hA hI h1;obtain⟨t3,h3,s3⟩:=eS (fb:=fb) (ds:=ds) (k:=k) (cs:=cs) (rest:=2::rest) hA hI h2;obtain⟨t4,h4,s4⟩:=gH (fb:=fb) (ds:=ds) (k:=k) (cs:=cs) (rest:=rest) hA hI h3;exact⟨t4,h4,s1.trans (s2.trans (s3.trans s4))⟩
 ·obtain⟨t1,h1,s1⟩:=gI (fb:=fb) (ds:=ds) (k:=k) (cs:=cs) (rest:=0::1::2::rest) hA hI h0
  obtain⟨t2,h2,s2⟩:=eS (fb:=fb) (ds:=ds) (k:=k) (cs:=cs) (rest:=1::2::rest) hA hI h1;obtain⟨t3,h3,s3⟩:=eR (fb:=fb) (ds:=ds) (k:=k) (cs:=cs) (rest:=2::rest) hA hI h2;obtain⟨t4,h4,s4⟩:=gH (fb:=fb) (ds:=ds) (k:=k) (cs:=cs) (rest:=rest) hA hI h3;exact⟨t4,h4,s1.trans (s2.trans (s3.trans s4))⟩
 ·obtain⟨t1,h1,s1⟩:=gI (fb:=fb) (ds:=ds) (k:=k) (cs:=cs) (rest:=0::2::1::rest) hA hI h0
  obtain⟨t2,h2,s2⟩:=eS (fb:=fb) (ds:=ds) (k:=k) (cs:=cs) (rest:=2::1::rest) hA hI h1;obtain⟨t3,h3,s3⟩:=gH (fb:=fb) (ds:=ds) (k:=k) (cs:=cs) (rest:=1::rest) hA hI h2;obtain⟨t4,h4,s4⟩:=eR (fb:=fb) (ds:=ds) (k:=k) (cs:=cs) (rest:=rest) hA hI h3;exact⟨t4,h4,s1.trans (s2.trans (s3.trans s4))⟩
 ·obtain⟨t1,h1,s1⟩:=gI (fb:=fb) (ds:=ds) (k:=k) (cs:=cs) (rest:=1::0::2::rest) hA hI h0
  obtain⟨t2,h2,s2⟩:=eR (fb:=fb) (ds:=ds) (k:=k) (cs:=cs) (rest:=0::2::rest) hA hI h1;obtain⟨t3,h3,s3⟩:=eS (fb:=fb) (ds:=ds) (k:=k) (cs:=cs) (rest:=2::rest) hA hI h2;obtain⟨t4,h4,s4⟩:=gH (fb:=fb) (ds:=ds) (k:=k) (cs:=cs) (rest:=rest) hA hI h3;exact⟨t4,h4,s1.trans (s2.trans (s3.trans s4))⟩
end
end
section
section
variable {P:Program}{tmps tm:Array Value}{w w1 wA:World}{zb:Obj}{sv nv:Value}{len:Nat}{fb:Frame}{ds:List Deferred}{k:List Item}{cs:List Frame}{ops:Array Oper}{rest:List Nat}{s e:TypeId}{z:Value}
structure w9 (tmps:Array Value) (ev na pa:Value) (len:Nat) (b5:Bool) (tm:Array Value):Prop where
 size:tm.size=tmps.size
 same:∀t,t<8\/14<=t->tm.getD t undef=tmps.getD t undef
 v1:tm.getD 9 undef=ev
 v2:tm.getD 10 undef=.int .i64 len
 v4:tm.getD 12 undef=na
 v5:b5=true->tm.getD 13 undef=pa
theorem xH(hA:App ops s e z)(FD:14<=tmps.size){ev:Value}{b o cap sz:Nat}(hu:P.underlying s=some (.slice e))(BG:bA P e=some sz)
  (h:w9 tmps ev (.slice (some ⟨b,o,none⟩) (len+1) cap) (.pointer (some ⟨b,o+len*sz,none⟩)) len false tm) :
  ∃BA,w9 tmps ev (.slice (some ⟨b,o,none⟩) (len+1) cap) (.pointer (some ⟨b,o+len*sz,none⟩)) len true BA/\∀w:World,Steps P (lone (fb.atR ⟨tm,ds⟩ (.inRegion ops (5::rest)::k)) cs w) (lone (fb.atR ⟨BA,ds⟩ (.inRegion ops rest::k)) cs w):=by
 obtain⟨o5,ho,hi,_⟩:=hA.i5;have AR:13<tm.size:=by rw[h.size];omega
 refine⟨tm.setIfInBounds 13 (.pointer (some ⟨b,o+len*sz,none⟩)),⟨by simp[h.size],λt ht=>?_,?_,?_,?_,λ_=>?_⟩,λw=>iY ho hi (λc e=>by cases e) ?_⟩
 ·rw[bZ _ _ _ _ AR,Ax (by omega)];exact h.same t ht
 ·rw[bZ _ _ _ _ AR,Ax (by omega)];exact h.v1
 ·rw[bZ _ _ _ _ AR,Ax (by omega)];exact h.v2
 ·rw[bZ _ _ _ _ AR,Ax (by omega)];exact h.v4
 ·rw[bZ _ _ _ _ AR,Bo rfl]
 ·have h1:(⟨tm,ds⟩:Act).eval (.tmp 12)=.slice (some ⟨b,o,none⟩) (len+1) cap:=h.v4
  have h2:(⟨tm,ds⟩:Act).eval (.tmp 10)=.int .i64 len:=h.v2;simp[execOp,h1,h2,Instr.indexAt,asIntOf,run_underlying hu,show((len:Nat):Int)<(len:Int)+1 by omega,run_sizeOf BG,cF]
theorem gi(hA:App ops s e z){vv:List Value}{na:Value}{b off:Nat}{E':TypeId}{cl:List Value}(BG:bA P e=some vv.length)(Jd:∀u∈vv,oneC u=true)
  (h:w9 tmps (.agg ⟨vv⟩) na (.pointer (some ⟨b,off,none⟩)) len true tm) (hb:w.heap[b]?=some (.cells ⟨cl⟩ E' (0,0))) (ho:off+vv.length<=cl.length) :
  Steps P (lone (fb.atR ⟨tm,ds⟩ (.inRegion ops (6::rest)::k)) cs w) (lone (fb.atR ⟨tm,ds⟩ (.inRegion ops rest::k)) cs (w.putObj b (.cells ⟨overwrite cl off vv⟩ E' (0,0)))):=by
 obtain⟨o6,ho6,hi,_⟩:=hA.i6;refine aBi ho6 hi (λc e=>by cases e) ?_;have h1:(⟨tm,ds⟩:Act).eval (.tmp 13)=.pointer (some ⟨b,off,none⟩):=h.v5 rfl;have h2:(⟨tm,ds⟩:Act).eval (.tmp 9)=.agg ⟨vv⟩:=h.v1;have h3:=fQ (P:=P) (t:=e) (o:=off) (v:=.agg ⟨vv⟩) (by simpa[Value.cells] using BG) hb (by simpa[Value.cells] using Jd) (by simpa[Value.cells] using ho);simp[Value.cells] at h3;simp[execOp,Instr.storeAt,h1,h2,Instr.sureAddr,h3]
theorem sV(hA:App ops s e z){ev pa:Value}{b5:Bool}{a:Option Addr}{n c b2:Nat}{T2:TypeId}(BG:bA P s=some 1)
  (h:w9 tmps ev (.slice a n c) pa len b5 tm) (h2:tmps.getD 2 undef=.pointer (some ⟨b2,0,none⟩)) (hb:w.heap[b2]?=some (.cells ⟨[sv]⟩ T2 (0,0))) :
  Steps P (lone (fb.atR ⟨tm,ds⟩ (.inRegion ops (7::rest)::k)) cs w) (lone (fb.atR ⟨tm,ds⟩ (.inRegion ops rest::k)) cs (w.putObj b2 (.cells ⟨[.slice a n c]⟩ T2 (0,0)))):=by
 obtain⟨o7,ho7,hi,_⟩:=hA.i7;refine aBi ho7 hi (λc e=>by cases e) ?_;have h1:(⟨tm,ds⟩:Act).eval (.tmp 2)=.pointer (some ⟨b2,0,none⟩):=by rw[<-h2];exact h.same 2 (by omega)
 have h3:(⟨tm,ds⟩:Act).eval (.tmp 12)=.slice a n c:=h.v4;have h4:=fQ (P:=P) (t:=s) (o:=0) (v:=.slice a n c) (by simpa[Value.cells] using BG) hb (by simp[Value.cells,oneC]) (by simp[Value.cells]);simp[Value.cells,overwrite] at h4;simp[execOp,Instr.storeAt,h1,h3,Instr.sureAddr,h4]
theorem aDp(hA:App ops s e z)(FD:14<=tmps.size){vv:List Value}{b o cap b2:Nat}{E' T2:TypeId}{cl:List Value}(hu:P.underlying s=some (.slice e))(HO:bA P s=some 1)(BG:bA P e=some vv.length)(Jd:∀u∈vv,oneC u=true)
  (h:AppSt tmps w sv nv (.agg ⟨vv⟩) len zb true true true true tm wA) (Js:∀ty,(Builtin.append_ #[s,s] ty #[sv,nv]).run P wA=.ok (.slice (some ⟨b,o,none⟩) (len+1) cap) w1)
  (hb:w1.heap[b]?=some (.cells ⟨cl⟩ E' (0,0))) (ho:o+(len+1)*vv.length<=cl.length) (h2:tmps.getD 2 undef=.pointer (some ⟨b2,0,none⟩)) (EP:w1.heap[b2]?=some (.cells ⟨[sv]⟩ T2 (0,0))) (BD:b≠b2) {q:List Nat} (hq:q∈U0) :
  ∃BA,BA.size=tmps.size/\(∀t,t<8\/14<=t->BA.getD t undef=tmps.getD t undef)/\Steps P (lone (fb.atR ⟨tm,ds⟩ (.inRegion ops q::k)) cs wA)
   (lone (fb.atR ⟨BA,ds⟩ (.inRegion ops []::k)) cs ((w1.putObj b (.cells ⟨overwrite cl (o+len*vv.length) vv⟩ E' (0,0))).putObj b2 (.cells ⟨[.slice (some ⟨b,o,none⟩) (len+1) cap]⟩ T2 (0,0)))):=by
 have hmul:(len+1)*vv.length=len*vv.length+vv.length:=Nat.succ_mul _ _;have AR:12<tm.size:=by rw[h.size];omega
 obtain⟨o4,ho4,hi4,_⟩:=hA.i4
 have WX:∀rest,Steps P (lone (fb.atR ⟨tm,ds⟩ (.inRegion ops (4::rest)::k)) cs wA) (lone (fb.atR ⟨tm.setIfInBounds 12 (.slice (some ⟨b,o,none⟩) (len+1) cap),ds⟩ (.inRegion ops rest::k)) cs w1):=λrest=>by
  refine iY ho4 hi4 (λc e=>by cases e) ?_;have e1:(⟨tm,ds⟩:Act).eval (.tmp 8)=sv:=h.v0 rfl;have e2:(⟨tm,ds⟩:Act).eval (.tmp 11)=nv:=h.v3 rfl;simp[execOp,resolve,invoke,builtin,e1,e2,Js]
 have h4:w9 tmps (.agg ⟨vv⟩) (.slice (some ⟨b,o,none⟩) (len+1) cap) (.pointer (some ⟨b,o+len*vv.length,none⟩)) len false (tm.setIfInBounds 12 (.slice (some ⟨b,o,none⟩) (len+1) cap)):=by
  refine⟨by simp[h.size],λt ht=>?_,?_,?_,?_,λe=>by cases e⟩
  ·rw[bZ _ _ _ _ AR,Ax (by omega)];exact h.same t ht
  ·rw[bZ _ _ _ _ AR,Ax (by omega)];exact h.v1 rfl
  ·rw[bZ _ _ _ _ AR,Ax (by omega)];exact h.v2 rfl
  ·rw[bZ _ _ _ _ AR,Bo rfl]
 obtain⟨t5,h5,s5⟩:=xH (P:=P) (fb:=fb) (ds:=ds) (k:=k) (cs:=cs) hA FD hu BG h4 (rest:=[6,7]);have E0:b<w1.heap.size:=(Ad.1 hb).1;have I8:b2<w1.heap.size:=(Ad.1 EP).1;have AX:(w1.putObj b2 (.cells ⟨[.slice (some ⟨b,o,none⟩) (len+1) cap]⟩ T2 (0,0))).heap[b]?=some (.cells ⟨cl⟩ E' (0,0)):=(World.putObj_heap_other BD).trans hb;have WQ:(w1.putObj b (.cells ⟨overwrite cl (o+len*vv.length) vv⟩ E' (0,0))).heap[b2]?=some (.cells ⟨[sv]⟩ T2 (0,0)):=(World.putObj_heap_other (Co BD)).trans EP;have B4:=λt (ht:t<8\/14<=t)=>h5.same t ht
 simp only[U0,Bb,Ce,Eb] at hq;rcases hq with rfl|rfl|rfl
 ·exact⟨t5,h5.size,B4,(WX _).trans ((s5 w1).trans ((gi hA BG Jd h5 hb (by omega)).trans (sV hA HO h5 h2 WQ)))⟩
 ·obtain⟨t5,h5,s5⟩:=xH (P:=P) (fb:=fb) (ds:=ds) (k:=k) (cs:=cs) hA FD hu BG h4 (rest:=[7,6])
  refine⟨t5,h5.size,λt ht=>h5.same t ht,(WX _).trans ((s5 w1).trans ((sV hA HO h5 h2 EP).trans ?_))⟩;rw[vU _ BD];exact gi hA BG Jd h5 AX (by omega)
 ·obtain⟨t5,h5,s5⟩:=xH (P:=P) (fb:=fb) (ds:=ds) (k:=k) (cs:=cs) hA FD hu BG h4 (rest:=[6])
  refine⟨t5,h5.size,λt ht=>h5.same t ht,(WX _).trans ((sV hA HO h4 h2 EP).trans ((s5 _).trans ?_))⟩;rw[vU _ BD];exact gi hA BG Jd h5 AX (by omega)
end
end
end Go.AM
