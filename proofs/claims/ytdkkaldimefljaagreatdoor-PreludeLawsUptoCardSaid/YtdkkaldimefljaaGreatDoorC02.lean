import Derived.Test.YtdkkaldimefljaaGreatDoorC01
import Derived.Laws.StructEq
set_option linter.all false
noncomputable section
namespace Go.CM
section
open Go.AM (oneC overwrite run_underlying run_sizeOf cY aS bA bO aU aT AY CP b8 cF bytes_beq)
variable {P:Program}{w0 w:World}{J:Rho}{h:T O}{nx:Q}{tm:T V}{tmps:Array Value}{ds:List Deferred}{k:V->AA}{r v:V}
variable {dst:Option Nat}{ty:TypeId}{pos:String}{AH:Array Edge}{A8:Option (Nat×Bool)}
theorem dH{a b:Nat}(h:Nat.blt a b=true):a<b:=by simpa[Dc] using h
theorem dC{α β:Type}{o:Option α}{f:α->Option β}{b:β}(h:o.bind f=some b):∃a,o=some a/\f a=some b:=by
 cases o with
 |none=>cases h
 |some a=>exact⟨a,rfl,h⟩
theorem k7{α β:Type}{o:Option α}{f:α->β}{b:β}(h:o.map f=some b):∃a,o=some a/\f a=b:=by
 cases o with
 |none=>cases h
 |some a=>exact⟨a,rfl,by simpa using h⟩
theorem aMA(H:HR P w0 J h nx w){t:TypeId}{x:Operand}(hT:XR J tm tmps (Op.operands (.unOp .not t x)).toList)(e:pK (.not (aE P x)) tm h k=.ok r) :
  ∃v,k v=.ok r/\PG P w J tmps ds ⟨dst,.unOp .not t x,ty,pos,AH,A8⟩ v:=by
 simp only[pK] at e;obtain⟨c,e1,hc⟩:=opd (ds:=ds) (o:=⟨dst,.unOp .not t x,ty,pos,AH,A8⟩) H hT (by simp[Op.operands]) e;obtain⟨b,hb,e2⟩:=xO e1;subst hb;exact⟨_,nD e2,_,by simp[execOp,hc.inv_bool,Op.unary],.bool _⟩
theorem aO1(H:HR P w0 J h nx w){s d:TypeId}{x:Operand}{ks kd:IntKind}(hs:P.underlying s=some (.int ks))(hd:P.underlying d=some (.int kd))(hT:XR J tm tmps (Op.operands (.convert s d x)).toList)(e:pK (.cvi kd (aE P x)) tm h k=.ok r) :
  ∃v,k v=.ok r/\PG P w J tmps ds ⟨dst,.convert s d x,ty,pos,AH,A8⟩ v:=by
 simp only[pK] at e;obtain⟨c,e1,hc⟩:=opd (ds:=ds) (o:=⟨dst,.convert s d x,ty,pos,AH,A8⟩) H hT (by simp[Op.operands]) e;obtain⟨k1,n,hn,e2⟩:=gk e1;subst hn;exact⟨_,oI e2,_,by simp[execOp,hc.inv_int,convert,run_underlying hs,run_underlying hd,Conv.intToInt],.int _ _⟩
theorem aO2(H:HR P w0 J h nx w){s d:TypeId}{x:Operand}(hs:P.underlying s=some .string)(hd:P.underlying d=some .string)(hT:XR J tm tmps (Op.operands (.convert s d x)).toList)(e:pK (.cvs (aE P x)) tm h k=.ok r) :
  ∃v,k v=.ok r/\PG P w J tmps ds ⟨dst,.convert s d x,ty,pos,AH,A8⟩ v:=by
 simp only[pK] at e;obtain⟨c,e1,hc⟩:=opd (ds:=ds) (o:=⟨dst,.convert s d x,ty,pos,AH,A8⟩) H hT (by simp[Op.operands]) e;obtain⟨l,n,hn,e2⟩:=qP e1;subst hn;obtain⟨sl,h1,h2,h3⟩:=hc.inv_str;exact⟨_,e2,.string ⟨⟨sl⟩⟩,by simp[execOp,h1,convert,run_underlying hs,run_underlying hd],.str _ _ _ h2 h3⟩
theorem xx{op:BinOp}{t:TypeId}{x y:Operand}{b:PB}(hb:gz P op t x y=b) :
  b=.bad\/b=.bin op (aE P x) (aE P y)\/∃m,ZU P t m y/\((op=.eql/\b=.eq false m (aE P x) (aE P y))\/(op=.neq/\b=.eq true m (aE P x) (aE P y))):=by
 have main:∀(neg:Bool)(b:PB),(match P.underlying t with
   |some (.pointer e)=>(match bA P e with
    |some s=>(match Nat.blt 0 s with
     |true=>PB.eq neg .ptr (aE P x) (aE P y)
     |false=>.bad)
    |none=>.bad)
   |some .bool=>.eq neg .bool (aE P x) (aE P y)
   |some (.int _)=>.bin op (aE P x) (aE P y)
   |some .string=>.bin op (aE P x) (aE P y)
   |some (.slice _)=>(match jO .nilS y with|true=>.eq neg .nilS (aE P x) (aE P y)|false=>.bad)
   |some (.map _ _)=>(match jO .nilM y with|true=>.eq neg .nilM (aE P x) (aE P y)|false=>.bad)
   |some (.func _ _ _)=>(match jO .nilF y with|true=>.eq neg .nilF (aE P x) (aE P y)|false=>.bad)
   |some (.interface _)=>(match jO .nilI y with|true=>.eq neg .nilI (aE P x) (aE P y)|false=>.bad)
   |_=>.bad)=b->b=.bad\/b=.bin op (aE P x) (aE P y)\/∃m,ZU P t m y/\b=.eq neg m (aE P x) (aE P y):=λneg b hb=>by
  split at hb
  ·rename_i e hu
   split at hb
   ·rename_i s hs
    split at hb
    ·rename_i h0
     obtain⟨j,hj,rfl⟩:=k7 hs;exact .inr (.inr ⟨.ptr,⟨e,j,hu,hj,by have:=dH h0;omega⟩,hb.symm⟩)
    ·exact .inl hb.symm
   ·exact .inl hb.symm
  ·exact .inr (.inr ⟨.bool,by assumption,hb.symm⟩)
  ·exact .inr (.inl hb.symm)
  ·exact .inr (.inl hb.symm)
  ·rename_i hu
   split at hb
   ·rename_i hn
    refine .inr (.inr ⟨.nilS,⟨?_,_,hu⟩,hb.symm⟩);unfold jO at hn
    split at hn<;>first|rfl|(cases hn;done)|simp at hn
   ·exact .inl hb.symm
  ·rename_i hu
   split at hb
   ·rename_i hn
    refine .inr (.inr ⟨.nilM,⟨?_,_,_,hu⟩,hb.symm⟩);unfold jO at hn
    split at hn<;>first|rfl|(cases hn;done)|simp at hn
   ·exact .inl hb.symm
  ·rename_i hu
   split at hb
   ·rename_i hn
    refine .inr (.inr ⟨.nilF,⟨?_,_,_,_,hu⟩,hb.symm⟩);unfold jO at hn
    split at hn<;>first|rfl|(cases hn;done)|simp at hn
   ·exact .inl hb.symm
  ·rename_i hu
   split at hb
   ·rename_i hn
    refine .inr (.inr ⟨.nilI,⟨?_,_,hu⟩,hb.symm⟩);unfold jO at hn
    split at hn<;>first|rfl|(cases hn;done)|simp at hn
   ·exact .inl hb.symm
  ·exact .inl hb.symm
 cases op
 case eql =>
  rcases main false b hb with h|h|⟨m,h1,h2⟩
  ·exact .inl h
  ·exact .inr (.inl h)
  ·exact .inr (.inr ⟨m,h1,.inl ⟨rfl,h2⟩⟩)
 case neq =>
  rcases main true b hb with h|h|⟨m,h1,h2⟩
  ·exact .inl h
  ·exact .inr (.inl h)
  ·exact .inr (.inr ⟨m,h1,.inr ⟨rfl,h2⟩⟩)
 all_goals exact .inr (.inl hb.symm)
theorem aIz(H:HR P w0 J h nx w){op:BinOp}{t yt:TypeId}{x y:Operand}(hT:XR J tm tmps (Op.operands (.binOp op t x y yt)).toList)(e:pK (gz P op t x y) tm h k=.ok r) :
  ∃v,k v=.ok r/\PG P w J tmps ds ⟨dst,.binOp op t x y yt,ty,pos,AH,A8⟩ v:=by
 have fin:∀v u,k v=.ok r->(eqGuard op t x y (ev tmps ds x) (ev tmps ds y)).run P w=.ok () w->(binOp op t (ev tmps ds x) (ev tmps ds y)).run P w=.ok u w->VR J v u ->
   ∃v,k v=.ok r/\PG P w J tmps ds ⟨dst,.binOp op t x y yt,ty,pos,AH,A8⟩ v:=λv u h0 h1 h2 h3=>⟨v,h0,u,by simp[execOp,h1,h2],h3⟩
 rcases xx (P:=P) (op:=op) (t:=t) (x:=x) (y:=y) rfl with hb|hb|⟨m,ht,hb⟩
 ·rw[hb] at e;cases e
 ·rw[hb] at e
  simp only[pK] at e;obtain⟨a,e1,ha⟩:=opd (ds:=ds) (o:=⟨dst,.binOp op t x y yt,ty,pos,AH,A8⟩) H hT (by simp[Op.operands]) e;obtain⟨b,e2,hb⟩:=opd (ds:=ds) (o:=⟨dst,.binOp op t x y yt,ty,pos,AH,A8⟩) H hT (by simp[Op.operands]) e1;obtain⟨c,u,g1,g2,g3,g4⟩:=aG0 (P:=P) (w:=w) (J:=J) (t:=t) (ox:=x) (oy:=y) ha hb e2;exact fin c u g1 g2 g3 g4
 ·have Pp:∀c,y=.const c->ev tmps ds y=c:=λc hc=>by subst hc;rfl
  rcases hb with⟨rfl,hb⟩|⟨rfl,hb⟩<;>rw[hb] at e<;>simp only[pK] at e
  ·obtain⟨a,e1,ha⟩:=opd (ds:=ds) (o:=⟨dst,.binOp .eql t x y yt,ty,pos,AH,A8⟩) H hT (by simp[Op.operands]) e
   obtain⟨b,e2,hb⟩:=opd (ds:=ds) (o:=⟨dst,.binOp .eql t x y yt,ty,pos,AH,A8⟩) H hT (by simp[Op.operands]) e1;obtain⟨z,e3,g1,g2,g3⟩:=aEj (x:=x) H ht ha hb Pp e2;exact fin _ _ (nD e3) (g1 _) g2 (by cases z<;>exact .bool _)
  ·obtain⟨a,e1,ha⟩:=opd (ds:=ds) (o:=⟨dst,.binOp .neq t x y yt,ty,pos,AH,A8⟩) H hT (by simp[Op.operands]) e
   obtain⟨b,e2,hb⟩:=opd (ds:=ds) (o:=⟨dst,.binOp .neq t x y yt,ty,pos,AH,A8⟩) H hT (by simp[Op.operands]) e1;obtain⟨z,e3,g1,g2,g3⟩:=aEj (x:=x) H ht ha hb Pp e2;exact fin _ _ (nD e3) (g1 _) g3 (by cases z<;>exact .bool _)
theorem aEU{o:Q}{off:Nat}(e:J8 h o off k=.ok r):∃n t,((∃BT B6 ty ex,h.ob o=.row n t BT B6 ty ex)\/h.ob o=.ro n t)/\off<n/\k (t.at off)=.ok r:=by
 unfold J8 at e;rw[bV] at e;obtain⟨n,t,h1,e1⟩:=nu e;obtain⟨h2,e2⟩:=bW e1;rw[nY,dZ] at e2;exact⟨n,t,h1,dH h2,e2⟩
theorem mh{o:Q}{off m:Nat}{k:List V->AA}(e:nP h o off m k=.ok r):∃n t,((∃BT B6 ty ex,h.ob o=.row n t BT B6 ty ex)\/h.ob o=.ro n t)/\off+m<=n/\k (mU m off t)=.ok r:=by
 unfold nP at e;rw[bV] at e;obtain⟨n,t,h1,e1⟩:=nu e;obtain⟨h2,e2⟩:=bW e1;rw[rQ] at e2;exact⟨n,t,h1,Ah h2,e2⟩
theorem VRs.agg{cs:List V}{vs:List Value}(h:VRs J cs vs)(hk:∀c∈cs,isCell c=true):VR J (.agg cs) (.agg ⟨vs⟩):=.agg cs vs h.1 hk h.2
theorem aO6(H:HR P w0 J h nx w){t:TypeId}{a:Operand}(ht:bO P t=some false)(hT:XR J tm tmps (Op.operands (.load t a)).toList)(e:pK (.ld1 (aE P a)) tm h k=.ok r) :
  ∃v,k v=.ok r/\PG P w J tmps ds ⟨dst,.load t a,ty,pos,AH,A8⟩ v:=by
 simp only[pK] at e;obtain⟨c,e1,hc⟩:=opd (ds:=ds) (o:=⟨dst,.load t a,ty,pos,AH,A8⟩) H hT (by simp[Op.operands]) e;obtain⟨o,off,ho,e2⟩:=l7 e1;subst ho;obtain⟨b,N,hv,hb⟩:=hc.inv_ptr;obtain⟨n,tt,h1,h2,e3⟩:=aEU e2;obtain⟨u,g1,g2,_⟩:=H.cell hb h1 h2;exact⟨_,e3,u,by simp[execOp,hv,Instr.loadAt,Instr.sureAddr,AM.run_loadVar_one ht g1],g2⟩
theorem aO7(H:HR P w0 J h nx w){t:TypeId}{n:Nat}{a:Operand}(ht:bO P t=some true)(hs:bA P t=some n)(hT:XR J tm tmps (Op.operands (.load t a)).toList)(e:pK (.ldn n (aE P a)) tm h k=.ok r) :
  ∃v,k v=.ok r/\PG P w J tmps ds ⟨dst,.load t a,ty,pos,AH,A8⟩ v:=by
 simp only[pK] at e;obtain⟨c,e1,hc⟩:=opd (ds:=ds) (o:=⟨dst,.load t a,ty,pos,AH,A8⟩) H hT (by simp[Op.operands]) e;obtain⟨o,off,ho,e2⟩:=l7 e1;subst ho;obtain⟨b,N,hv,hb⟩:=hc.inv_ptr;obtain⟨m,tt,h1,h2,e3⟩:=mh e2;obtain⟨vs,g1,g2,g3,g4⟩:=H.cells hb h1 h2;exact⟨_,e3,.agg ⟨vs⟩,by simp[execOp,hv,Instr.loadAt,Instr.sureAddr,AM.run_loadVar_agg (P:=P) ht (by rw[g1];exact hs) g2],g3.agg g4⟩
theorem aPb(H:HR P w0 J h nx w){x:Operand}(hT:XR J tm tmps (Op.operands (.nilCheck x)).toList)(e:pK (.nck (aE P x)) tm h k=.ok r) :
  ∃v,k v=.ok r/\PG P w J tmps ds ⟨dst,.nilCheck x,ty,pos,AH,A8⟩ v:=by
 simp only[pK] at e;obtain⟨c,e1,hc⟩:=opd (ds:=ds) (o:=⟨dst,.nilCheck x,ty,pos,AH,A8⟩) H hT (by simp[Op.operands]) e;have CA:=hc;generalize hg:ev tmps ds x=u at hc CA;cases c<;>simp only at e1<;>first|cases e1|skip
 ·obtain⟨b,N,rfl,hb⟩:=hc.inv_ptr
  exact⟨_,e1,_,by simp[execOp,hg],CA⟩
 ·obtain⟨us,vs,rfl,_⟩:=hc.inv_fn
  exact⟨_,e1,_,by simp[execOp,hg],CA⟩
 ·obtain⟨b,N,rfl,hb⟩:=hc.inv_yld
  exact⟨_,e1,_,by simp[execOp,hg],CA⟩
 ·cases hc with
  |ifc t x v hv=>exact⟨_,e1,_,by simp[execOp,hg],CA⟩
theorem aRx(H:HR P w0 J h nx w){t:TypeId}{x:Operand}{f s:Nat}{ot:Nat×TypeId}(hf:AY P t f=some ot)(hs:bA P ot.2=some s)(h0:Nat.blt 0 s=true)(hT:XR J tm tmps (Op.operands (.fieldAddr t x f)).toList)
  (e:pK (.fa ot.1 (aE P x)) tm h k=.ok r):∃v,k v=.ok r/\PG P w J tmps ds ⟨dst,.fieldAddr t x f,ty,pos,AH,A8⟩ v:=by
 simp only[pK] at e;obtain⟨c,e1,hc⟩:=opd (ds:=ds) (o:=⟨dst,.fieldAddr t x f,ty,pos,AH,A8⟩) H hT (by simp[Op.operands]) e;obtain⟨o,a,ho,e2⟩:=l7 e1;subst ho;rw[aH] at e2;obtain⟨b,N,hv,hb⟩:=hc.inv_ptr;obtain⟨fs,fl,h1,h2,h3,h4⟩:=CP hf;have GX:¬s=0:=by have:=dH h0;omega
 exact⟨_,e2,.pointer (some ⟨b,a+ot.1,none⟩),by simp[execOp,hv,Instr.fieldAt,run_underlying h1,h2,Instr.sureAddr,fieldPlace,h4,run_sizeOf hs,GX,cF,h3],.ptr _ _ _ _ hb⟩
theorem vt:∀{n:Nat}{l:List V}{k:List V->AA},qK n l k=.ok r->n<=l.length/\k (l.take n)=.ok r
 |0,l,k,e=>⟨En _,by simpa[qK] using e⟩
 |n+1,[],k,e=>by cases e
 |n+1,v::l,k,e=>by
  obtain⟨h1,h2⟩:=vt (n:=n) (l:=l) e;exact⟨by simp;omega,by simpa using h2⟩
theorem uo:∀{off n:Nat}{l:List V}{k:List V->AA},vQ off n l k=.ok r->off+n<=l.length/\k ((l.drop off).take n)=.ok r
 |0,n,l,k,e=>by
  obtain⟨h1,h2⟩:=vt (n:=n) (l:=l) e;exact⟨by omega,by simpa using h2⟩
 |off+1,n,[],k,e=>by cases e
 |off+1,n,v::l,k,e=>by
  obtain⟨h1,h2⟩:=uo (off:=off) (n:=n) (l:=l) e;exact⟨by simp;omega,by simpa using h2⟩
theorem aA7{t:TypeId}{cs:List V}{vs:List Value}{off s:Nat}{agg:Bool}(hv:VRs J cs vs)(hk:∀c∈cs,isCell c=true)(h1:bO P t=some agg)(h2:bA P t=some s)(e:N9 agg off s cs k=.ok r) :
  ∃c u,k c=.ok r/\(part t ⟨vs⟩ off).run P w=.ok u w/\VR J c u:=by
 cases agg with
 |false =>
  obtain⟨c,g1,g2⟩:=aAV (l:=cs) (n:=off) e;obtain⟨u,g3,g4⟩:=hv.get g1;have hi:off<vs.length:=(Ab.1 g3).1;have he:vs[off]=u:=(Ab.1 g3).2;exact⟨c,u,g2,by simp[part,cY h1,hi,he],g4⟩
 |true =>
  obtain⟨g1,g2⟩:=uo (off:=off) (n:=s) (l:=cs) e;refine⟨_,.agg ⟨(vs.drop off).take s⟩,g2,?_,((hv.drop off).take s).agg λc hc=>hk c (Gf (Ge hc))⟩;have hle:off+s<=vs.length:=by rw[<-hv.1];exact g1
  simp[part,cY h1,run_sizeOf h2,He,hle]
theorem aRy(H:HR P w0 J h nx w){t:TypeId}{x:Operand}{f s:Nat}{g:Bool}{ot:Nat×TypeId}(hf:AY P t f=some ot)(hs:bA P ot.2=some s)(ha:bO P ot.2=some g)(hT:XR J tm tmps (Op.operands (.field t x f)).toList)
  (e:pK (.fd g ot.1 s (aE P x)) tm h k=.ok r):∃v,k v=.ok r/\PG P w J tmps ds ⟨dst,.field t x f,ty,pos,AH,A8⟩ v:=by
 simp only[pK] at e;obtain⟨c,e1,hc⟩:=opd (ds:=ds) (o:=⟨dst,.field t x f,ty,pos,AH,A8⟩) H hT (by simp[Op.operands]) e;obtain⟨l,hl,e2⟩:=aDr e1;subst hl;obtain⟨vs,hv,DK,hk⟩:=hc.inv_agg;obtain⟨fs,fl,h1,h2,h3,h4⟩:=CP hf;obtain⟨c',u,g1,g2,g3⟩:=aA7 (P:=P) (w:=w) DK hk ha hs e2;exact⟨c',g1,u,by simp[execOp,hv,Instr.field,run_underlying h1,h2,asAgg,h4,h3,g2],g3⟩
theorem aRw(H:HR P w0 J h nx w){x:Operand}{i:Nat}(hT:XR J tm tmps (Op.operands (.extract x i)).toList)(e:pK (.ex i (aE P x)) tm h k=.ok r) :
  ∃v,k v=.ok r/\PG P w J tmps ds ⟨dst,.extract x i,ty,pos,AH,A8⟩ v:=by
 simp only[pK] at e;obtain⟨c,e1,hc⟩:=opd (ds:=ds) (o:=⟨dst,.extract x i,ty,pos,AH,A8⟩) H hT (by simp[Op.operands]) e;generalize hg:ev tmps ds x=u at hc;cases c<;>simp only at e1<;>first|cases e1|skip
 obtain⟨vs,rfl,DK⟩:=hc.inv_tup;obtain⟨c',g1,g2⟩:=aAV e1;obtain⟨u,g3,g4⟩:=DK.get g1;have hi:i<vs.length:=(Ab.1 g3).1;have he:vs[i]=u:=(Ab.1 g3).2;exact⟨c',g2,u,by simp[execOp,hg,Instr.extract,hi,he],g4⟩
theorem aEf{sz i:Nat}{v:V}(e:x9 sz v i k=.ok r):∃o off len,((∃cap,v=.sl o off len cap)\/∃s,v=.su o off len s)/\i<len/\k (.ptr o (off+i*sz))=.ok r:=by
 cases v<;>simp only[x9] at e<;>first|cases e|skip
 ·obtain⟨h1,e1⟩:=bW e
  rw[aH] at e1;exact⟨_,_,_,.inl ⟨_,rfl⟩,dH h1,e1⟩
 ·obtain⟨h1,e1⟩:=bW e
  rw[aH] at e1;exact⟨_,_,_,.inr ⟨_,rfl⟩,dH h1,e1⟩
theorem VR.inv_sl{o:Q}{off len:Nat}{v:V}{u:Value}(hv:VR J v u)(h:(∃cap,v=.sl o off len cap)\/∃s,v=.su o off len s):∃b N cap,u=.slice (some ⟨b,off,none⟩) len cap/\J o=some (b,N)/\len<=cap:=by
 rcases h with⟨cap,rfl⟩|⟨s,rfl⟩
 ·cases hv with|sl _ _ _ _ b N h hc=>exact⟨b,N,cap,rfl,h,hc⟩
 ·cases hv with|su _ _ _ _ b N cap h hc hr=>exact⟨b,N,cap,rfl,h,hc⟩
theorem aRz(H:HR P w0 J h nx w){t el:TypeId}{x i:Operand}{s:Nat}(hu:P.underlying t=some (.slice el))(hs:bA P el=some s)(hT:XR J tm tmps (Op.operands (.indexAddr t x i)).toList)(e:pK (.ia s (aE P x) (aE P i)) tm h k=.ok r) :
  ∃v,k v=.ok r/\PG P w J tmps ds ⟨dst,.indexAddr t x i,ty,pos,AH,A8⟩ v:=by
 simp only[pK] at e;obtain⟨c,e1,hc⟩:=opd (ds:=ds) (o:=⟨dst,.indexAddr t x i,ty,pos,AH,A8⟩) H hT (by simp[Op.operands]) e;obtain⟨d,e2,hd⟩:=opd (ds:=ds) (o:=⟨dst,.indexAddr t x i,ty,pos,AH,A8⟩) H hT (by simp[Op.operands]) e1;obtain⟨kd,n,hn,e3⟩:=jJ e2;subst hn;obtain⟨o,off,len,h1,h2,e4⟩:=aEf e3;obtain⟨b,N,cap,hv,hb,_⟩:=hc.inv_sl h1;have hi:=hd.inv_int;refine⟨_,e4,.pointer (some ⟨b,off+n*s,none⟩),?_,.ptr _ _ _ _ hb⟩;simp[execOp,hv,hi,Instr.indexAt,asIntOf,run_underlying hu,h2,run_sizeOf hs,cF]
theorem aO3(H:HR P w0 J h nx w){t el:TypeId}{x i:Operand}{len s:Nat}(hu:P.underlying t=some (.array len el))(hs:bA P el=some s)(hT:XR J tm tmps (Op.operands (.indexAddr t x i)).toList)(e:pK (.iaa len s (aE P x) (aE P i)) tm h k=.ok r) :
  ∃v,k v=.ok r/\PG P w J tmps ds ⟨dst,.indexAddr t x i,ty,pos,AH,A8⟩ v:=by
 simp only[pK] at e;obtain⟨c,e1,hc⟩:=opd (ds:=ds) (o:=⟨dst,.indexAddr t x i,ty,pos,AH,A8⟩) H hT (by simp[Op.operands]) e;obtain⟨d,e2,hd⟩:=opd (ds:=ds) (o:=⟨dst,.indexAddr t x i,ty,pos,AH,A8⟩) H hT (by simp[Op.operands]) e1;obtain⟨kd,n,hn,e3⟩:=jJ e2;subst hn;obtain⟨o,a,ho,e4⟩:=l7 e3;subst ho;obtain⟨h1,e5⟩:=bW e4;rw[aH] at e5;have h2:=dH h1;obtain⟨b,N,hv,hb⟩:=hc.inv_ptr;have hi:=hd.inv_int;refine⟨_,e5,.pointer (some ⟨b,a+n*s,none⟩),?_,.ptr _ _ _ _ hb⟩;simp[execOp,hv,hi,Instr.indexAt,asIntOf,run_underlying hu,Instr.sureAddr,h2,run_sizeOf hs,cF]
theorem aO5(H:HR P w0 J h nx w){t:TypeId}{x i:Operand}(hu:P.underlying t=some .string)(hT:XR J tm tmps (Op.operands (.index t x i)).toList)(e:pK (.ixs (aE P x) (aE P i)) tm h k=.ok r) :
  ∃v,k v=.ok r/\PG P w J tmps ds ⟨dst,.index t x i,ty,pos,AH,A8⟩ v:=by
 simp only[pK] at e;obtain⟨c,e1,hc⟩:=opd (ds:=ds) (o:=⟨dst,.index t x i,ty,pos,AH,A8⟩) H hT (by simp[Op.operands]) e;obtain⟨d,e2,hd⟩:=opd (ds:=ds) (o:=⟨dst,.index t x i,ty,pos,AH,A8⟩) H hT (by simp[Op.operands]) e1;obtain⟨kd,j,hn,e3⟩:=jJ e2;subst hn;obtain⟨l,n,ho,e4⟩:=qP e3;subst ho;obtain⟨h1,e5⟩:=bW e4;rw[aH] at e5;have h2:=dH h1;obtain⟨s,hv,hl,hp⟩:=hc.inv_str;have hi:=hd.inv_int;subst hl;rw[<-hp,pC,aCq s j h2] at e5
 have JK:(⟨⟨s⟩⟩:ByteArray)[j]?=some s[j]:=by
  have BG:j<(⟨⟨s⟩⟩:ByteArray).size:=h2;rw[ByteArray.getElem?_lt' _ _ BG];rfl
 exact⟨_,e5,.int .u8 (s[j].toNat),by simp[execOp,hv,hi,Instr.index,asIntOf,run_underlying hu,JK],.int _ _⟩
theorem aO4(H:HR P w0 J h nx w){t el:TypeId}{x i:Operand}{len s:Nat}{g:Bool}(hu:P.underlying t=some (.array len el))(hs:bA P el=some s)(ha:bO P el=some g)(hT:XR J tm tmps (Op.operands (.index t x i)).toList)
  (e:pK (.ixa g len s (aE P x) (aE P i)) tm h k=.ok r):∃v,k v=.ok r/\PG P w J tmps ds ⟨dst,.index t x i,ty,pos,AH,A8⟩ v:=by
 simp only[pK] at e;obtain⟨c,e1,hc⟩:=opd (ds:=ds) (o:=⟨dst,.index t x i,ty,pos,AH,A8⟩) H hT (by simp[Op.operands]) e;obtain⟨d,e2,hd⟩:=opd (ds:=ds) (o:=⟨dst,.index t x i,ty,pos,AH,A8⟩) H hT (by simp[Op.operands]) e1;obtain⟨kd,j,hn,e3⟩:=jJ e2;subst hn;obtain⟨l,ho,e4⟩:=aDr e3;subst ho;obtain⟨h1,e5⟩:=bW e4;rw[aH] at e5;have h2:=dH h1;obtain⟨vs,hv,DK,hk⟩:=hc.inv_agg;have hi:=hd.inv_int;obtain⟨c',u,g1,g2,g3⟩:=aA7 (P:=P) (w:=w) DK hk ha hs e5;exact⟨c',g1,u,by simp[execOp,hv,hi,Instr.index,asIntOf,run_underlying hu,h2,run_sizeOf hs,g2],g3⟩
end
section
open Go.AM (oneC overwrite aR aN run_underlying run_sizeOf cY aS bA bO aU aT AY CP b8 cF bytes_beq run_getObj kA)
variable {P:Program}{w0 w:World}{J:Rho}{h:T O}{nx:Q}{tm:T V}{tmps:Array Value}{ds:List Deferred}{k:V->AA}{r v:V}
variable {dst:Option Nat}{ty:TypeId}{pos:String}{AH:Array Edge}{A8:Option (Nat×Bool)}
theorem aBZ{v:Value}(hb:mE (iD v)=true):VC (iD v) (iO (iD v)):=by
 cases v with
 |agg cs =>
  simp only[iD] at hb ⊢;cases he:(cs.toList.map jV).all mE with
  |false=>rw[he] at hb;cases hb
  |true=>exact .inl rfl
 |_ =>
  simp only[iD] at hb ⊢;have hc:=ct hb;refine .inr ⟨hc,?_⟩
  revert hc
  generalize jV _=c;intro hc;cases c<;>first|rfl|cases hc
theorem sQ{t:TypeId}{z:V}(e:zeroV P t=some z):∃zv,(P.info? t).bind (·.zero)=some zv/\VR J z zv/\VC z (iO z):=by
 unfold zeroV at e;obtain⟨zv,h1,h2⟩:=dC e
 split at h2
 ·rename_i hb
  simp at h2;subst h2;exact⟨zv,h1,fX hb,aBZ hb⟩
 ·cases h2
theorem oJ{t:TypeId}{z:List V}(e:mX P t=some z):∃zv,(P.info? t).bind (·.zero)=some zv/\bA P t=some z.length/\VRs J z zv.cells.toList/\(∀c∈z,isCell c=true)/\∀u∈zv.cells.toList,oneC u=true:=by
 unfold mX at e;obtain⟨v,h1,h2⟩:=dC e;obtain⟨s,h3,h4⟩:=dC h2
 split at h4
 ·rename_i hl
  simp at h4;subst h4;obtain⟨zv,g1,g2,g3⟩:=sQ (J:=J) h1;obtain⟨g4,g5,g6⟩:=g2.cells g3;exact⟨zv,g1,by rw[Aa hl];exact h3,g4,g5,g6⟩
 ·cases h4
theorem VRs.over{zs cs:List V}{zv cv:List Value}{off:Nat}(h1:VRs J zs zv)(h2:VRs J cs cv):VRs J (overwrite zs off cs) (overwrite zv off cv):=by
 unfold overwrite;rw[h2.1];exact((h1.take off).append h2).append (h1.drop _)
theorem eg{zs cs:List V}{off:Nat}(h1:∀c∈zs,isCell c=true)(h2:∀c∈cs,isCell c=true):∀c∈overwrite zs off cs,isCell c=true:=λc hc=>by
 unfold overwrite at hc;simp only[Bs] at hc;rcases hc with(hc|hc)|hc
 ·exact h1 c (Ge hc)
 ·exact h2 c hc
 ·exact h1 c (Gf hc)
theorem zJ:∀{l new:List V}{off:Nat}{k:List V->AA},qE l off new k=.ok r->off+new.length<=l.length/\k (overwrite l off new)=.ok r
 |[],new,off,k,e=>by
  cases off with
  |zero=>cases new with
   |nil=>exact⟨by simp,e⟩
   |cons v vs=>cases e
  |succ off=>cases e
 |x::l,new,off,k,e=>by
  cases off with
  |zero=>cases new with
   |nil=>exact⟨by simp,by simpa[overwrite,qE] using e⟩
   |cons v vs =>
    obtain⟨h1,h2⟩:=zJ (l:=l) (new:=vs) (off:=0) e;exact⟨by simp at h1 ⊢;omega,by simpa[overwrite,Nat.add_comm 1] using h2⟩
  |succ off =>
   obtain⟨h1,h2⟩:=zJ (l:=l) (new:=new) (off:=off) e;refine⟨by simp;omega,?_⟩
   have:overwrite (x::l) (off+1) new=x::overwrite l off new:=by
    unfold overwrite;rw[show off+1+new.length=off+new.length+1 by omega];simp
   rw[this];exact h2
theorem aAi(H:HR P w0 J h nx w){place:Nat->Option (Nat×Nat)}:∀{parts:List (Nat×Operand)}{ps:List (Nat×Nat×X)}{z:List V}{zs:List Value}{k:List V->AA},qZ P place parts=some ps->XR J tm tmps (parts.map (·.2))->VRs J z zs->(∀c∈z,isCell c=true) ->
  gm tm ps z k=.ok r->∃cs vs,k cs=.ok r/\Instr.fill place ⟨zs⟩ (parts.map λp=>(p.1,ev tmps ds p.2))=some ⟨vs⟩/\VRs J cs vs/\∀c∈cs,isCell c=true
 |[],ps,z,zs,k,hp,hT,hz,hk,e=>by
  simp[qZ] at hp;subst hp;exact⟨z,zs,e,rfl,hz,hk⟩
 |(i,x)::parts,ps,z,zs,k,hp,hT,hz,hk,e=>by
  simp only[qZ] at hp;obtain⟨p,h1,hp⟩:=dC hp;obtain⟨l,h2,hp⟩:=k7 hp;subst hp;simp only[gm] at e;obtain⟨v,h3,e⟩:=eF e;have hv:=fV (ds:=ds) H.glob (hT.sub (λy hy=>by simp at hy;simp[hy])) h3;obtain⟨c,hc,e⟩:=tC e;rw[cI] at e;obtain⟨hl,e⟩:=bW e;obtain⟨h4,e⟩:=zJ e;obtain⟨g1,g2,g3⟩:=hv.cells hc;obtain⟨cs,vs,f1,f2,f3,f4⟩:=aAi H h2 (hT.sub (λy hy=>by simp at hy ⊢;exact .inr hy)) (hz.over (off:=p.1) g1) (eg hk g2) e;refine⟨cs,vs,f1,?_,f3,f4⟩
  have BG:(ev tmps ds x).cells.size=p.2:=by
   have:=g1.1
   rw[Aa hl] at this;simpa using this.symm
  have LF:p.1+(ev tmps ds x).cells.size<=zs.length:=by
   rw[<-hz.1,BG,<-Aa hl];exact h4
  simp only[Aw,Instr.fill,h1];rw[Ax (by simp[BG];rw[<-BG];exact LF),kA _ _ _ (by simpa using LF)];exact f2
theorem aOX(H:HR P w0 J h nx w){t:TypeId}{parts:Array (Nat×Operand)}{z:List V}{ps:List (Nat×Nat×X)}(hz:mX P t=some z)(hp:partsOf P t parts.toList=some ps)(hT:XR J tm tmps (Op.operands (.build t parts)).toList)
  (e:pK (.bld z ps) tm h k=.ok r):∃v,k v=.ok r/\PG P w J tmps ds ⟨dst,.build t parts,ty,pos,AH,A8⟩ v:=by
 simp only[pK] at e;obtain⟨zv,h1,h2,h3,h4,h5⟩:=oJ (J:=J) hz;have OD:XR J tm tmps (parts.toList.map (·.2)):=hT.sub (λx hx=>by simpa[Op.operands] using hx)
 have fin:∀{place:Nat->Option (Nat×Nat)},qZ P place parts.toList=some ps->(∀l,P.built t l=Instr.fill place zv.cells l)->∃v,k v=.ok r/\PG P w J tmps ds ⟨dst,.build t parts,ty,pos,AH,A8⟩ v:=λ{place} Mu hb=>by
  obtain⟨cs,vs,f1,f2,f3,f4⟩:=aAi (ds:=ds) H Mu OD h3 h4 e;refine⟨_,f1,.agg ⟨vs⟩,?_,f3.agg f4⟩
  have:=run_build (P:=P) w t (parts.map λ(i,x)=>(i,ev tmps ds x)) ⟨vs⟩ (by
   rw[hb];simp only[Gv]
   have:(⟨zv.cells.toList⟩:Array Value)=zv.cells:=by simp
   rw[<-this];exact f2)
  simp[execOp];simp at this;simp[this]
 unfold partsOf at hp
 split at hp
 ·rename_i fs hu
  obtain⟨pl,Mu,hp⟩:=dC hp;refine fin hp λl=>?_
  obtain⟨it,hi,IQ⟩:=dC h1;simp[Program.built,hi,hu,IQ,Mu]
 ·rename_i n el hu
  obtain⟨s,hs,hp⟩:=dC hp;refine fin hp λl=>?_
  obtain⟨it,hi,IQ⟩:=dC h1;obtain⟨ie,KQ,hs⟩:=k7 hs;simp[Program.built,hi,hu,IQ,KQ,hs]
 ·cases hp
theorem wU(H:HR P w0 J h nx w){lo:Option Operand}{d:Nat}{k:Nat->AA}(hT:XR J tm tmps lo.toList)(e:zH (lo.map (aE P)) tm d k=.ok r) :
  ∃n,k n=.ok r/\((lo=none/\n=d)\/∃y kd,lo=some y/\ev tmps ds y=.int kd (n:Int)):=by
 cases lo with
 |none=>exact⟨d,e,.inl ⟨rfl,rfl⟩⟩
 |some y =>
  simp only[Bw,zH] at e;obtain⟨c,h1,e⟩:=eF e;have hc:=fV (ds:=ds) H.glob (hT.sub (by simp)) h1;obtain⟨kd,n,hn,e⟩:=jJ e;subst hn;exact⟨n,e,.inr ⟨y,kd,rfl,hc.inv_int⟩⟩
theorem kH{isS:Bool}{len cap:Nat}{lo hi:Option Operand}{l m:Nat}(hl:(lo=none/\l=0)\/∃y kd,lo=some y/\ev tmps ds y=.int kd (l:Int))(hh:(hi=none/\m=len)\/∃y kd,hi=some y/\ev tmps ds y=.int kd (m:Int))
  (h1:l<=m) (h2:m<=cap):(Instr.sliceBounds isS len cap (lo.map (ev tmps ds)) (hi.map (ev tmps ds)) none).run P w=.ok (l,m,cap) w:=by
 rcases hl with⟨rfl,rfl⟩|⟨y,kd,rfl,hy⟩<;>rcases hh with⟨rfl,rfl⟩|⟨z,HB,rfl,hz⟩
 ·simp[Instr.sliceBounds]
 ·simp[Instr.sliceBounds,hz,run_sliceBound,h2]
 ·simp[Instr.sliceBounds,hy,run_sliceBound,h1]
 ·simp[Instr.sliceBounds,hy,hz,run_sliceBound,h1,h2]
theorem n5{len cap:Nat}{lo:Option Operand}{l m x:Nat}{z u:Operand}{kz ku:IntKind}(hl:(lo=none/\l=0)\/∃y kd,lo=some y/\ev tmps ds y=.int kd (l:Int))(hz:ev tmps ds z=.int kz (m:Int))(hu:ev tmps ds u=.int ku (x:Int))
  (h1:l<=m) (h2:m<=x) (h3:x<=cap):(Instr.sliceBounds true len cap (lo.map (ev tmps ds)) (some (ev tmps ds z)) (some (ev tmps ds u))).run P w=.ok (l,m,x) w:=by
 rcases hl with⟨rfl,rfl⟩|⟨y,kd,rfl,hy⟩
 ·simp[Instr.sliceBounds,hz,hu,run_sliceBound,h2,h3]
 ·simp[Instr.sliceBounds,hy,hz,hu,run_sliceBound,h1,h2,h3]
theorem aPe(H:HR P w0 J h nx w){t:TypeId}{x:Operand}{lo hi:Option Operand}(hu:P.underlying t=some .string)(hT:XR J tm tmps (Op.operands (.slice t x lo hi none)).toList)(e:pK (.slS (aE P x) (lo.map (aE P)) (hi.map (aE P))) tm h k=.ok r) :
  ∃v,k v=.ok r/\PG P w J tmps ds ⟨dst,.slice t x lo hi none,ty,pos,AH,A8⟩ v:=by
 simp only[pK] at e;obtain⟨c,e1,hc⟩:=opd (ds:=ds) (o:=⟨dst,.slice t x lo hi none,ty,pos,AH,A8⟩) H hT (by simp[Op.operands]) e;obtain⟨l,n,ho,e2⟩:=qP e1;subst ho;obtain⟨a,e3,ha⟩:=wU (ds:=ds) H (hT.sub (λy hy=>by simp[Op.operands];simp at hy;simp[hy])) e2;obtain⟨b,e4,hb⟩:=wU (ds:=ds) H (hT.sub (λy hy=>by simp[Op.operands];simp at hy;simp[hy])) e3;obtain⟨hg,e5⟩:=bW e4;rw[aH,aH] at e5;rw[Ac] at hg;have g1:=Ah hg.1;have g2:=Ah hg.2;obtain⟨s,hv,hl,hp⟩:=hc.inv_str;subst hl;have HK:=kH (P:=P) (w:=w) (isS:=false) (len:=s.length) (cap:=s.length) ha hb g1 g2;have BG:(⟨⟨s⟩⟩:ByteArray).size=s.length:=rfl
 have hex:(⟨⟨s⟩⟩:ByteArray).extract a b=⟨⟨(s.drop a).take (b-a)⟩⟩:=by
  have:=ByteArray.extract_mk s a b
  rw[show(⟨⟨s⟩⟩:ByteArray)=ByteArray.mk s.toArray from rfl,this]
 refine⟨_,e5,.string ⟨⟨(s.drop a).take (b-a)⟩⟩,?_,.str _ _ _ (by simp;omega) ?_⟩
 ·simp only[ev] at HK hv
  simp[execOp,ev,hv,Instr.sliceAt,Instr.slice,run_underlying hu,BG,HK,hex]
 ·rw[(uL _ _ (by simp;omega)).1,(uL _ _ (by omega)).2,pC,pC,hp]
theorem aAq{sz lo hi:Nat}{mx:Option Nat}{v:V}{u:Value}(hv:VR J v u)(e:bg sz v lo hi mx k=.ok r) :
  ∃c a len cap,k c=.ok r/\u=.slice a len cap/\lo<=hi/\hi<=mx.getD cap/\mx.getD cap<=cap/\VR J c (.slice (if mx.getD cap=lo then a else a.map (·.add (lo*sz))) (hi-lo) (mx.getD cap-lo)):=by
 cases v<;>simp only[bg] at e<;>first|cases e|skip
 ·obtain⟨hg,e⟩:=bW e
  cases hv;rw[Ac,Ac] at hg;have h1:=Aa hg.1.1;have h2:=Aa hg.1.2;subst h1;subst h2;cases mx with
  |none=>exact⟨_,_,_,_,e,rfl,by simp,by simp,by simp,by simpa using .nils⟩
  |some m =>
   have h3:=Aa hg.2;subst h3;exact⟨_,_,_,_,e,rfl,by simp,by simp,by simp,by simpa using .nils⟩
 ·rename_i o off len cap
  cases hv with
  |sl _ _ _ _ b N hb hc =>
  cases mx with
  |none =>
   simp only at e;obtain⟨hg,e⟩:=bW e;rw[Ac] at hg;have g1:=Ah hg.1;have g2:=Ah hg.2;rw[aH,aH] at e
   split at e
   ·rename_i he
    have he:=Aa he;exact⟨_,_,_,_,e,rfl,g1,g2,by simp,by simp only[Fy,Bo he.symm];exact .sl _ _ _ _ _ _ hb (by omega)⟩
   ·rename_i he
    rw[aH] at e;have BD:¬cap=lo:=λh=>by rw[h,Cs] at he;cases he
    exact⟨_,_,_,_,e,rfl,g1,g2,by simp,by simp only[Fy,Ax BD,Bw,cF];exact .sl _ _ _ _ _ _ hb (by omega)⟩
  |some m =>
   simp only at e;obtain⟨hg,e⟩:=bW e;rw[Ac,Ac] at hg;have g1:=Ah hg.1.1;have g2:=Ah hg.1.2;have g3:=Ah hg.2;rw[aH,aH] at e
   split at e
   ·rename_i he
    have he:=Aa he;exact⟨_,_,_,_,e,rfl,g1,g2,g3,by simp only[Cn,Bo he.symm];exact .sl _ _ _ _ _ _ hb (by omega)⟩
   ·rename_i he
    rw[aH] at e;have BD:¬m=lo:=λh=>by rw[h,Cs] at he;cases he
    exact⟨_,_,_,_,e,rfl,g1,g2,g3,by simp only[Cn,Ax BD,Bw,cF];exact .sl _ _ _ _ _ _ hb (by omega)⟩
 ·rename_i o off len EK
  cases hv with
  |su _ _ _ _ b N cap hb hc hr =>
  cases mx with
  |none =>
   simp only at e;obtain⟨hg,e1⟩:=bW e;clear e;rw[Ac,Ac] at hg;have g0:=Aa hg.1.1;subst g0;have e:=e1;clear e1;have g1:=Ah hg.1.2;have g2:=Ah hg.2
   split at e
   ·rename_i he
    have he:=dH he;rw[aH,aH] at e;refine⟨_,_,_,_,e,rfl,g1,Bj g2 hc,by simp,?_⟩;simp only[Fy,Ax (show ¬cap=lo by omega),Bw,cF];refine .su _ _ _ _ _ _ _ hb (by omega) ?_
    have:lo*sz+(cap-lo)*sz=cap*sz:=by rw[<-Ct,Nat.add_sub_cancel' (by omega)]
    omega
   ·rename_i he
    have he:¬lo<len:=λh=>by rw[show Nat.blt lo len=true by simpa[Dc] using h] at he;cases he
    split at e
    ·rename_i h0
     have h0:=Aa h0;subst h0;have e:=e;refine⟨_,_,_,_,e,rfl,g1,Bj g2 hc,by simp,?_⟩
     have:hi=0:=by omega
     subst this;have hl:len=0:=by omega
     subst hl;simp only[Fy,Hk,Bw,cF,Bk,ite_self,Nat.sub_zero];exact .su _ _ _ _ _ _ _ hb (by omega) (by omega)
    ·refine⟨_,_,_,_,e,rfl,g1,Bj g2 hc,by simp,?_⟩
     rw[show hi-lo=0 by omega];split
     ·exact .se _ _
     ·exact .se _ _
  |some m =>
   simp only at e;obtain⟨hg,e⟩:=bW e;rw[Ac,Ac] at hg;have g1:=Ah hg.1.1;have g2:=Ah hg.1.2;have g3:=Ah hg.2;rw[aH,aH] at e
   split at e
   ·rename_i he
    have he:=Aa he;exact⟨_,_,_,_,e,rfl,g1,g2,Bj g3 hc,by simp only[Cn,Bo he.symm];exact .sl _ _ _ _ _ _ hb (by omega)⟩
   ·rename_i he
    rw[aH] at e;have BD:¬m=lo:=λh=>by rw[h,Cs] at he;cases he
    exact⟨_,_,_,_,e,rfl,g1,g2,Bj g3 hc,by simp only[Cn,Ax BD,Bw,cF];exact .sl _ _ _ _ _ _ hb (by omega)⟩
 ·cases hv with
  |se a cap =>
  cases mx with
  |none =>
   simp only at e;obtain⟨hg,e⟩:=bW e;rw[Ac] at hg;have h1:=Aa hg.1;have h2:=Aa hg.2;subst h1;subst h2;refine⟨_,_,_,_,e,rfl,by simp,by simp,by simp,?_⟩;split
   ·exact .se _ _
   ·exact .se _ _
  |some m=>cases e
theorem mj{v:V}{u:Value}{k:Nat->AA}(hv:VR J v u)(e:mi v k=.ok r):∃a len cap,u=.slice a len cap/\k len=.ok r/\len<=cap:=by
 cases hv<;>simp only[mi] at e<;>first|cases e|exact⟨_,_,_,rfl,e,by simp⟩|exact⟨_,_,_,rfl,e,by assumption⟩
theorem aPd(H:HR P w0 J h nx w){t el:TypeId}{sz:Nat}{x:Operand}{lo hi mx:Option Operand}(hu:P.underlying t=some (.slice el))(hs:bA P el=some sz)(Vi:(mx.isSome&&hi.isNone)=false)(hT:XR J tm tmps (Op.operands (.slice t x lo hi mx)).toList)
  (e:pK (.slL sz (aE P x) (lo.map (aE P)) (hi.map (aE P)) (mx.map (aE P))) tm h k=.ok r):∃v,k v=.ok r/\PG P w J tmps ds ⟨dst,.slice t x lo hi mx,ty,pos,AH,A8⟩ v:=by
 simp only[pK] at e;obtain⟨c,e1,hc⟩:=opd (ds:=ds) (o:=⟨dst,.slice t x lo hi mx,ty,pos,AH,A8⟩) H hT (by simp[Op.operands]) e;obtain⟨a,len,cap,hv,e2,MJ⟩:=mj hc e1;obtain⟨l,e3,hl⟩:=wU (ds:=ds) H (hT.sub (λy hy=>by simp[Op.operands];simp at hy;simp[hy])) e2;obtain⟨b,e4,hb⟩:=wU (ds:=ds) H (hT.sub (λy hy=>by simp[Op.operands];simp at hy;simp[hy])) e3;cases mx with
 |none =>
  simp only[Option.map_none] at e4;obtain⟨c',a',VE,Nd,g1,g2,g3,g4,g5,g6⟩:=aAq hc e4;rw[hv] at g2;simp at g2;obtain⟨rfl,rfl,rfl⟩:=g2;have HK:=kH (P:=P) (w:=w) (isS:=true) (len:=len) (cap:=cap) hl hb g3 (by simpa using g4);refine⟨c',g1,_,?_,g6⟩;simp only[ev] at HK hv;simp[execOp,ev,hv,Instr.sliceAt,Instr.slice,run_underlying hu,HK,run_sizeOf hs]
 |some u =>
  simp only[Bw] at e4;obtain⟨c2,h2,e5⟩:=eF e4;have EO:=fV (ds:=ds) H.glob (hT.sub (λy hy=>by simp[Op.operands];simp at hy;simp[hy])) h2;obtain⟨ku,m,hm,e6⟩:=jJ e5;subst hm;rcases hb with⟨rfl,_⟩|⟨z,kz,rfl,hz⟩
  ·simp at Vi
  ·obtain⟨c',a',VE,Nd,g1,g2,g3,g4,g5,g6⟩:=aAq hc e6
   rw[hv] at g2;simp at g2;obtain⟨rfl,rfl,rfl⟩:=g2;have HK:=n5 (P:=P) (w:=w) (len:=len) (cap:=cap) hl hz EO.inv_int g3 (by simpa using g4) (by simpa using g5);refine⟨c',g1,_,?_,g6⟩;simp only[ev] at HK hv;simp[execOp,ev,hv,Instr.sliceAt,Instr.slice,run_underlying hu,HK,run_sizeOf hs]
end
section
open Go.AM (oneC overwrite run_underlying run_sizeOf cY aS bA bO aU aT AY b8 cF bytes_beq run_getObj run_setObj)
variable {P:Program}{w0 w:World}{J:Rho}{h:T O}{nx:Q}{tm:T V}{tmps:Array Value}{ds:List Deferred}{k:V->AA}{r v:V}
variable {dst:Option Nat}{ty:TypeId}{pos:String}{AH:Array Edge}{A8:Option (Nat×Bool)}
theorem aPa(H:HR P w0 J h nx w){t:TypeId}{x:Operand}{d:TypeDesc}(hu:P.underlying t=some d)(hd:∀m,d≠.interface m)(hT:XR J tm tmps (Op.operands (.makeInterface t x)).toList)(e:pK (.mki t (aE P x)) tm h k=.ok r) :
  ∃v,k v=.ok r/\PG P w J tmps ds ⟨dst,.makeInterface t x,ty,pos,AH,A8⟩ v:=by
 simp only[pK] at e;obtain⟨c,e1,hc⟩:=opd (ds:=ds) (o:=⟨dst,.makeInterface t x,ty,pos,AH,A8⟩) H hT (by simp[Op.operands]) e;refine⟨_,e1,.iface t (ev tmps ds x),?_,.ifc _ _ _ hc⟩;simp only[execOp,Instr.makeInterface,Sem.run_bind,run_underlying hu,Result.andThen_ok];cases d<;>first|rfl|exact absurd rfl (hd _)
theorem aO9(H:HR P w0 J h nx w){f:Nat}{first caps:Array Operand}(hT:XR J tm tmps (Op.operands (.makeFunc (.func f) first caps)).toList)(e:pK (.mkf (qn f) (first.toList.map (aE P)) (caps.toList.map (aE P))) tm h k=.ok r) :
  ∃v,k v=.ok r/\PG P w J tmps ds ⟨dst,.makeFunc (.func f) first caps,ty,pos,AH,A8⟩ v:=by
 simp only[pK] at e;obtain⟨l,h1,e1⟩:=uV e;obtain⟨m,h2,e2⟩:=uV e1;have hl:=pJ (ds:=ds) H.glob (hT.sub (λy hy=>by simp[Op.operands];exact .inl (by simpa using hy))) h1;have hm:=pJ (ds:=ds) H.glob (hT.sub (λy hy=>by simp[Op.operands];exact .inr (by simpa using hy))) h2;have hv:=VR.fn (J:=J) (qn f) l m _ _ hl.1 hm.1 hl.2 hm.2;rw[eP] at hv;refine⟨_,e2,_,?_,hv⟩;have a1:first.map (ev tmps ds)=⟨first.toList.map (ev tmps ds)⟩:=by apply Cg;simp
 have a2:caps.map (ev tmps ds)=⟨caps.toList.map (ev tmps ds)⟩:=by apply Cg;simp
 simp[execOp,Instr.makeFunc,a1,a2]
theorem VR.inv_nilm{u:Value}(h:VR J .nilm u):u=.map none:=by cases h;rfl
def KT(P:Program)(s:KK)(t:TypeId):Prop :=
 match s with
 |.str=>P.underlying t=some .string
 |.int=>∃kd,P.underlying t=some (.int kd)
 |.ptr=>∃e j,P.underlying t=some (.pointer e)/\P.info? e=some j/\j.size≠0
 |.st l=>∃fs,P.underlying t=some (.struct fs)/\lP P fs.toList 0=some l/\P.stoodInHeld t=false
theorem wS{t e:TypeId}{s:KK}(hm:tZ P t=some (s,e)):∃kt,P.underlying t=some (.map kt e)/\KT P s kt:=by
 unfold tZ at hm
 split at hm
 ·rename_i kt e' hu
  split at hm
  ·simp at hm;obtain⟨rfl,rfl⟩:=hm
   exact⟨kt,hu,by assumption⟩
  ·simp at hm;obtain⟨rfl,rfl⟩:=hm
   exact⟨kt,hu,_,by assumption⟩
  ·rename_i p hp
   split at hm
   ·rename_i sz hs
    split at hm
    ·rename_i h0
     simp at hm;obtain⟨rfl,rfl⟩:=hm;obtain⟨j,hj,L3⟩:=k7 hs;exact⟨kt,hu,p,j,hp,hj,by have:=dH h0;omega⟩
    ·cases hm
   ·cases hm
  ·rename_i fs hfs
   split at hm
   ·cases hm
   ·rename_i hg
    obtain⟨l,hl,hm⟩:=k7 hm;simp at hm;obtain⟨rfl,rfl⟩:=hm;exact⟨kt,hu,fs,hfs,hl,hg⟩
  ·cases hm
 ·cases hm
theorem KT.desc{s:KK}{t:TypeId}(hk:KT P s t):∃d,P.underlying t=some d:=by
 cases s with
 |str=>exact⟨_,hk⟩
 |int=>exact⟨_,hk.choose_spec⟩
 |ptr=>obtain⟨e,j,h,_⟩:=hk;exact⟨_,h⟩
 |st n=>obtain⟨fs,h,_⟩:=hk;exact⟨_,h⟩
theorem uP{t:TypeId}{vs:List Value}{off:Nat}{u:Value}(ha:bO P t=some false)(hu:vs[off]?=some u):(part t ⟨vs⟩ off).run P w=.ok u w:=by
 have hi:off<vs.length:=(Ab.1 hu).1;have he:vs[off]=u:=(Ab.1 hu).2;simp[part,cY ha,hi,he]
def FT(P:Program)(f:FK)(t:TypeId):Prop :=
 match f with
 |.b=>P.underlying t=some .bool
 |.s=>P.underlying t=some .string
 |.i=>∃kd,P.underlying t=some (.int kd)
theorem FT.flat{f:FK}{t:TypeId}(h:FT P f t):bO P t=some false:=by
 unfold bO;cases f with
 |b=>rw[show P.underlying t=_ from h]
 |s=>rw[show P.underlying t=_ from h]
 |i=>obtain⟨kd,h⟩:=h;rw[h]
theorem qT{f:Field}{fs:List Field}{i:Nat}{l:List FK}(h:lP P (f::fs) i=some l):∃x l',l=x::l'/\f.offset=i/\f.name≠ "_"/\lP P fs (i+1)=some l'/\FT P x f.type:=by
 simp only[lP] at h
 split at h
 ·rename_i hg
  rw[Ac] at hg
  split at h<;>first|(obtain⟨l',h1,rfl⟩:=k7 h;exact⟨_,l',rfl,Aa hg.1,by simpa using hg.2,h1,by first|assumption|exact⟨_,by assumption⟩⟩)|cases h
 ·cases h
theorem di{f:FK}{t:TypeId}{x y:V}{ux uy:Value}{k:Bool->AA}(ht:FT P f t)(hx:VR J x ux)(hy:VR J y uy)(e:hU f x y k=.ok r) :
  ∃b,k b=.ok r/\(∀n,(Op.equalIn (n+1) t ux uy).run P w=.ok b w)/\(b=true->∀n,Instr.sameBits n uy ux=true):=by
 cases f with
 |b =>
  have hu:P.underlying t=some .bool:=ht;simp only[hU] at e;cases x<;>simp only at e<;>first|cases e|skip
  cases y<;>simp only at e<;>first|cases e|skip
  rename_i p q;rw[hx.inv_bool,hy.inv_bool];exact⟨_,e,λn=>by simp[Op.equalIn,run_underlying hu],λhb n=>by simp at hb;subst hb;cases n<;>simp[Instr.sameBits]⟩
 |s =>
  have hu:P.underlying t=some .string:=ht;simp only[hU] at e;cases x<;>simp only at e<;>first|cases e|skip
  cases y<;>simp only at e<;>first|cases e|skip
  obtain⟨p,rfl,rfl,rfl⟩:=hx.inv_str;obtain⟨q,rfl,rfl,rfl⟩:=hy.inv_str;rw[yx] at e;refine⟨_,e,λn=>by simp[Op.equalIn,run_underlying hu,bytes_beq],λhb n=>?_⟩;simp at hb;subst hb
  have:((⟨⟨p⟩⟩:ByteArray)==⟨⟨p⟩⟩)=true:=by rw[bytes_beq];simp
  cases n<;>exact this
 |i =>
  obtain⟨kd,hu⟩:=ht;simp only[hU] at e;cases x<;>simp only at e<;>first|cases e|skip
  cases y<;>simp only at e<;>first|cases e|skip
  obtain⟨hg,e1⟩:=bW e;clear e;have GA:=wP hg;subst GA;have e:=e1;clear e1;rw[tM] at e;rw[hx.inv_int,hy.inv_int];exact⟨_,e,λn=>by simp[Op.equalIn,run_underlying hu],λhb n=>by simp at hb;subst hb;cases n<;>simp[Instr.sameBits]⟩
theorem yC:∀{fs:List Field}{l:List FK}{i:Nat}{xs ys:List V}{us vs:List Value}{k:Bool->AA},lP P fs i=some l->VRs J xs (us.drop i)->VRs J ys (vs.drop i)->gK l xs ys k=.ok r ->
  ∃b,k b=.ok r/\(∀n,(Op.eqFields (n+1) ⟨us⟩ ⟨vs⟩ fs).run P w=.ok b w)/\(b=true->(us.drop i).length=(vs.drop i).length/\∀n,((vs.drop i).zip (us.drop i)).all (λ(x,y)=>Instr.sameBits n x y)=true)
 |[],l,i,xs,ys,us,vs,k,hf,hx,hy,e=>by
  simp[lP] at hf;subst hf;cases xs<;>cases ys<;>simp only[gK] at e<;>first|cases e|skip
  rw[hx.inv_nil,hy.inv_nil];exact⟨true,e,λn=>by simp[Op.eqFields],λ_=>⟨rfl,λn=>rfl⟩⟩
 |f::fs,l,i,xs,ys,us,vs,k,hf,hx,hy,e=>by
  obtain⟨x,l',rfl,ho,hn,OA,ht⟩:=qT hf;cases xs<;>cases ys<;>simp only[gK] at e<;>first|cases e|skip
  rename_i c cs d dd;obtain⟨u,Oa,hu,WI,CI⟩:=hx.inv_cons;obtain⟨v,B7,hv,WH,Pk⟩:=hy.inv_cons;obtain⟨b,e1,h1,h2⟩:=di (w:=w) ht WI WH e
  have gu:us[i]?=some u:=by have:(us.drop i)[0]?=some u:=by rw[hu];rfl
                            simpa using this
  have gv:vs[i]?=some v:=by have:(vs.drop i)[0]?=some v:=by rw[hv];rfl
                            simpa using this
  have pu:=uP (P:=P) (w:=w) (t:=f.type) ht.flat gu;have pv:=uP (P:=P) (w:=w) (t:=f.type) ht.flat gv;have du:us.drop (i+1)=Oa:=by rw[<-Gi,hu];rfl
  have dv:vs.drop (i+1)=B7:=by rw[<-Gi,hv];rfl
  cases b with
  |false =>
   exact⟨false,e1,λn=>by simp[Op.eqFields,hn,ho,pu,pv,h1],λh=>by cases h⟩
  |true =>
   obtain⟨b',g1,g2,g3⟩:=yC (us:=us) (vs:=vs) OA (by rw[du];exact CI) (by rw[dv];exact Pk) e1;refine⟨b',g1,λn=>by simp[Op.eqFields,hn,ho,pu,pv,h1,g2],λhb=>?_⟩;obtain⟨g4,g5⟩:=g3 hb;rw[du,dv] at g4 g5;rw[hu,hv];exact⟨by simp[g4],λn=>by simp only[List.zip_cons_cons,Er,h2 rfl n,Fv];exact g5 n⟩
theorem mT{t:TypeId}{fs:Array Field}(h:P.underlying t=some (.struct fs)):P.fieldsOf t=fs:=by simp[Program.fieldsOf,h]
theorem yT(H:HR P w0 J h nx w){s:KK}{t:TypeId}{x y:V}{ux uy:Value}{k:Bool->AA}(hk:KT P s t)(hx:VR J x ux)(hy:VR J y uy)(e:eC s h x y k=.ok r) :
  ∃b,k b=.ok r/\(Op.equal t ux uy).run P w=.ok b w/\(∀d b',P.underlying t=some d->Instr.sameNow d ux uy=some b'->b'=b)/\(b=true->Instr.sameBits 10000 uy ux=true):=by
 cases s with
 |str =>
  obtain⟨b,e1,h1,h2⟩:=di (P:=P) (w:=w) (f:=.s) (t:=t) hk hx hy (by simpa[eC,hU] using(by
   simp only[eC] at e;cases x<;>simp only at e<;>first|cases e|skip
   cases y<;>simp only at e<;>first|cases e|skip
   simpa only[hU] using e))
  refine⟨b,e1,b8 hk h1,λd b' hd hs=>?_,λhb=>h2 hb 10000⟩;have hu:P.underlying t=some .string:=hk;rw[hu] at hd;obtain rfl:=Ap hd;have h3:=h1 0;simp only[eC] at e;cases x<;>simp only at e<;>first|cases e|skip
  cases y<;>simp only at e<;>first|cases e|skip
  obtain⟨p,rfl,rfl,rfl⟩:=hx.inv_str;obtain⟨q,rfl,rfl,rfl⟩:=hy.inv_str;simp[Op.equalIn,run_underlying hu] at h3;simp[Instr.sameNow] at hs;rw[<-h3,<-hs]
 |int =>
  obtain⟨kd,hu⟩:=hk;simp only[eC] at e;cases x<;>simp only at e<;>first|cases e|skip
  cases y<;>simp only at e<;>first|cases e|skip
  obtain⟨hg,e1⟩:=bW e;clear e;have GA:=wP hg;subst GA;have e:=e1;clear e1;rw[tM] at e;rw[hx.inv_int,hy.inv_int];refine⟨_,e,b8 hu λn=>by simp[Op.equalIn,run_underlying hu],λd b' hd hs=>?_,λhb=>by simp at hb;subst hb;simp[Instr.sameBits]⟩;rw[hu] at hd;obtain rfl:=Ap hd;simp[Instr.sameNow] at hs;exact hs.symm
 |ptr =>
  obtain⟨el,j,hu,hi,hs⟩:=hk;simp only[eC] at e;cases x<;>simp only at e<;>first|cases e|skip
  cases y<;>simp only at e<;>first|cases e|skip
  obtain⟨b1,N1,rfl,h1⟩:=hx.inv_ptr;obtain⟨b2,N2,rfl,h2⟩:=hy.inv_ptr;obtain⟨z,e,HF,GU⟩:=aEm H h1 h2 e;refine⟨z,e,?_,λd b' hd hs=>?_,λhb=>?_⟩
  ·cases z with
   |true =>
    obtain⟨rfl,rfl⟩:=HF rfl;exact b8 hu λn=>by simp[Op.equalIn,run_underlying hu,sizeOf,typeInfo,hi,run_sameAddr_same]
   |false =>
    obtain⟨g1,⟨ca,ta,g2⟩,cb,tb,g3⟩:=GU rfl;exact b8 hu λn=>by simp[Op.equalIn,run_underlying hu,sizeOf,typeInfo,hi,hs,run_sameAddr_other w g1 g2 g3]
  ·rw[hu] at hd;obtain rfl:=Ap hd
   simp[Instr.sameNow] at hs
  ·obtain⟨rfl,rfl⟩:=HF hb
   simp[Instr.sameBits]
 |st l =>
  obtain⟨fs,hu,hf,A7⟩:=hk;simp only[eC] at e;cases x<;>simp only at e<;>first|cases e|skip
  cases y<;>simp only at e<;>first|cases e|skip
  obtain⟨us,rfl,PI,_⟩:=hx.inv_agg;obtain⟨vs,rfl,DK,_⟩:=hy.inv_agg;obtain⟨b,e,h1,h2⟩:=yC (P:=P) (w:=w) (us:=us) (vs:=vs) hf (by simpa using PI) (by simpa using DK) e;refine⟨b,e,?_,λd b' hd hs=>?_,λhb=>?_⟩
  ·show(Op.equalIn (9998+1+1) t (.agg ⟨us⟩) (.agg ⟨vs⟩)).run P w=_
   rw[run_equalIn_struct w (9998+1) t _ _ (by rw[mT hu];exact hu) A7,mT hu];exact h1 9998
  ·rw[hu] at hd;obtain rfl:=Ap hd
   simp[Instr.sameNow] at hs
  ·obtain⟨g1,g2⟩:=h2 hb
   simp only[Ee] at g1 g2;show(vs.length==us.length&&_)=true;simp only[Ac,Dq];exact⟨g1.symm,g2 9999⟩
theorem lO(H:HR P w0 J h nx w){s:KK}{t:TypeId}{x:V}{ux:Value}(hk:KT P s t)(hx:VR J x ux):∀{es:List (V×V)}{AD:List MapEntry}{i:Nat}{k:V->AA}{kn:AA},MR J es AD->fZ s h x es k kn=.ok r ->
  (kn=.ok r/\(Instr.findAsking t ux AD i).run P w=.ok none w/\∀d r',P.underlying t=some d->Instr.findNow d ux AD i=some r'->r'=none) \/
   ∃c u j,k c=.ok r/\VR J c u/\(Instr.findAsking t ux AD i).run P w=.ok (some (i+j,u)) w/\∀d r',P.underlying t=some d->Instr.findNow d ux AD i=some r'->r'=some (i+j,u)
 |[],[],i,k,kn,hm,e=>.inl ⟨e,by simp[Instr.findAsking],λd r' _ h=>by simp[Instr.findNow] at h;exact h.symm⟩
 |[],_::_,i,k,kn,hm,e=>by have:=hm.len;simp at this
 |_::_,[],i,k,kn,hm,e=>by have:=hm.len;simp at this
 |(y,v)::es,en::AD,i,k,kn,hm,e=>by
  simp only[fZ] at e;obtain⟨b,e,s1,s2,_⟩:=yT H hk hx (hm.key 0 (y,v) en rfl rfl) e;have LI:MR J es AD:=⟨by have:=hm.len;simpa using this,λi p e h1 h2=>hm.key (i+1) p e (by simpa using h1) (by simpa using h2),λi p e h1 h2=>hm.val (i+1) p e (by simpa using h1) (by simpa using h2)⟩
  cases b with
  |true =>
   refine .inr ⟨v,en.val,0,e,hm.val 0 (y,v) en rfl rfl,by simp[Instr.findAsking,s1],λd r' hd h=>?_⟩;simp only[Instr.findNow] at h
   split at h
   ·simpa using h.symm
   ·rename_i hs;have:=s2 d _ hd hs;cases this
   ·cases h
  |false =>
   have now:∀d r',P.underlying t=some d->Instr.findNow d ux (en::AD) i=some r'->Instr.findNow d ux AD (i+1)=some r':=λd r' hd h=>by
    simp only[Instr.findNow] at h
    split at h
    ·rename_i hs;have:=s2 d _ hd hs;cases this
    ·exact h
    ·cases h
   rcases lO H hk hx (i:=i+1) LI e with⟨f1,f2,f3⟩|⟨c,u,j,f1,f2,f3,f4⟩
   ·exact .inl ⟨f1,by simp[Instr.findAsking,s1,f2],λd r' hd h=>f3 d r' hd (now d r' hd h)⟩
   ·exact .inr ⟨c,u,j+1,f1,f2,by rw[show i+(j+1)=i+1+j by omega];simp[Instr.findAsking,s1,f3],λd r' hd h=>by rw[show i+(j+1)=i+1+j by omega];exact f4 d r' hd (now d r' hd h)⟩
theorem run_findKey{t:TypeId}{d:TypeDesc}{ux:Value}{AD:List MapEntry}{o:Option (Nat×Value)}(hd:P.underlying t=some d)(h1:(Instr.findAsking t ux AD 0).run P w=.ok o w)(h2:∀d r',P.underlying t=some d->Instr.findNow d ux AD 0=some r'->r'=o) :
  (Instr.findKey t ux AD).run P w=.ok o w:=by
 simp only[Instr.findKey,Sem.run_bind,run_underlying hd,Result.andThen_ok];split
 ·rename_i r' hr;rw[h2 d r' hd hr];rfl
 ·exact h1
def KF(s:KK)(x:V):Prop:=∀l,s=.st l->∃cs,x=.agg cs/\cs.length=l.length
theorem rU{s:KK}{x:V}{k:AA}(e:hY s x k=.ok r):k=.ok r/\KF s x:=by
 cases s with
 |st l =>
  cases x<;>simp only[hY] at e<;>first|cases e|skip
  rw[cI,cI] at e;obtain⟨hg,e⟩:=bW e;exact⟨e,λl' hl=>by cases hl;exact⟨_,rfl,Aa hg⟩⟩
 |_=>exact⟨e,λl hl=>by cases hl⟩
theorem dn:∀{fs:List Field}{i:Nat}{l:List FK},lP P fs i=some l->l.length=fs.length
 |[],i,l,h=>by simp[lP] at h;subst h;rfl
 |f::fs,i,l,h=>by
  obtain⟨x,l',rfl,_,_,h1,_⟩:=qT h;simp[dn h1]
theorem run_checkKey{s:KK}{t:TypeId}(hk:KT P s t){x:V}{u:Value}(hx:VR J x u)(hs:KF s x)(b:Bool)(n:Nat):(Instr.checkKey b (n+2) t u).run P w=.ok () w:=by
 cases s with
 |str=>have hd:P.underlying t=some .string:=hk;simp[Instr.checkKey,run_underlying hd]
 |int=>obtain⟨kd,hd⟩:=hk;simp[Instr.checkKey,run_underlying hd]
 |ptr=>obtain⟨e,j,hd,_⟩:=hk;simp[Instr.checkKey,run_underlying hd]
 |st l =>
  obtain⟨fs,hd,hf,_⟩:=hk;obtain⟨cs,rfl,hl⟩:=hs l rfl;obtain⟨vs,rfl,DK,_⟩:=hx.inv_agg;have hlen:vs.length=fs.toList.length:=by rw[<-DK.1,hl,dn hf]
  have one:∀(f:Field)(i:Nat) x,FT P x f.type->i<vs.length->f.offset=i->∃u,(part f.type ⟨vs⟩ f.offset).run P w=.ok u w/\(Instr.checkKey b (n+1) f.type u).run P w=.ok () w:=λf i x Nz hi ho=>by
   subst ho;refine⟨vs[f.offset],uP Nz.flat (by simp[hi]),?_⟩;cases x with
   |b=>have hd:P.underlying f.type=some .bool:=Nz;simp[Instr.checkKey,run_underlying hd]
   |s=>have hd:P.underlying f.type=some .string:=Nz;simp[Instr.checkKey,run_underlying hd]
   |i=>obtain⟨kd,hd⟩:=Nz;simp[Instr.checkKey,run_underlying hd]
  obtain⟨m,hm⟩:∃m,m=n+1:=⟨_,rfl⟩
  rw[show n+2=m+1 by omega];rw[<-hm] at one;simp only[Instr.checkKey,Sem.run_bind,run_underlying hd,Result.andThen_ok];rw[<-Array.forIn_toList]
  have main:∀(gs:List Field)(i:Nat)(l:List FK),lP P gs i=some l->i+gs.length=vs.length ->
    (forIn gs PUnit.unit λf r=>if f.name≠ "_" then do Instr.checkKey b m f.type (<-part f.type ⟨vs⟩ f.offset);pure (ForInStep.yield PUnit.unit) else pure (ForInStep.yield PUnit.unit):Sem PUnit).run P w=.ok PUnit.unit w:=by
   intro gs;induction gs with
   |nil=>intro i l _ _;simp
   |cons f gs ih =>
    intro i l hf hi;obtain⟨x,l',rfl,ho,hn,OA,Nz⟩:=qT hf;simp only[Ay] at hi;obtain⟨u,h1,h2⟩:=one f i x Nz (by omega) ho;simp only[List.forIn_cons,Bo hn,Sem.run_bind,h1,h2,Result.andThen_ok,Sem.run_pure];exact ih (i+1) l' OA (by omega)
  have:=main fs.toList 0 l hf (by omega)
  simp at this ⊢;simp[this]
theorem HR.map(H:HR P w0 J h nx w){o:Q}{b N:Nat}{es:List (V×V)}(ho:J o=some (b,N))(hm:h.ob o=.map es\/h.ob o=.mapd es):∃(AD:List MapEntry)(cl:Nat),w.heap[b]?=some (.map ⟨AD⟩ cl)/\MR J es AD/\w0.heap.size<=b:=by
 have:=H.obj o b N ho
 rcases hm with hm|hm
 ·rw[hm] at this
  cases this with|map _ AD cl _ _ hb hw hm hc=>exact⟨AD,cl,hw,hm,hb⟩
 ·rw[hm] at this
  cases this with|mapd _ AD cl _ _ hb hw hm=>exact⟨AD,cl,hw,hm,hb⟩
theorem VR.tup2{a b:V}{x y:Value}(h1:VR J a x)(h2:VR J b y):VR J (.tup [a,b]) (.tuple #[x,y]):=by
 have:=VRs.cons h1 (VRs.cons h2 VRs.nil)
 exact .tup _ _ this.1 this.2
theorem aRA(H:HR P w0 J h nx w){t el:TypeId}{s:KK}{ok:Bool}{z:V}{m key:Operand}(ht:tZ P t=some (s,el))(hz:zeroV P el=some z)(hT:XR J tm tmps (Op.operands (.lookup t m key ok)).toList)(e:pK (.lk s ok z (aE P m) (aE P key)) tm h k=.ok r) :
  ∃v,k v=.ok r/\PG P w J tmps ds ⟨dst,.lookup t m key ok,ty,pos,AH,A8⟩ v:=by
 simp only[pK] at e;obtain⟨c,e1,hc⟩:=opd (ds:=ds) (o:=⟨dst,.lookup t m key ok,ty,pos,AH,A8⟩) H hT (by simp[Op.operands]) e;obtain⟨x,e2,hx⟩:=opd (ds:=ds) (o:=⟨dst,.lookup t m key ok,ty,pos,AH,A8⟩) H hT (by simp[Op.operands]) e1;obtain⟨e2,NI⟩:=rU e2;obtain⟨kt,hu,FZ⟩:=wS ht;obtain⟨d,hd⟩:=FZ.desc;obtain⟨zv,HF,GU,_⟩:=sQ (J:=J) hz;have HE:=aS (P:=P) (w:=w) HF;have EB:=λb=>run_checkKey (w:=w) FZ hx NI b 9998
 have AZ:∀(es:List MapEntry)(o:Option (Nat×Value)),(match ev tmps ds m with
   |.map none=>es=[]
   |.map (some rr)=>∃cl,w.heap[rr]?=some (.map ⟨es⟩ cl)
   |_=>False)->(Instr.findKey kt (ev tmps ds key) es).run P w=.ok o w->(execOp (ev tmps ds) ⟨dst,.lookup t m key ok,ty,pos,AH,A8⟩).run P w=.ok (.value (if ok then .tuple #[(o.map (·.2)).getD zv,.bool o.isSome] else(o.map (·.2)).getD zv)) w:=λes o B3 hf=>by
  generalize hg:ev tmps ds m=um at B3
  split at B3
  ·subst B3
   simp only[execOp,Instr.lookup,hg,Sem.run_bind,run_underlying hu,Result.andThen_ok];cases o<;>cases ok<;>simp[EB,hf,HE]
  ·obtain⟨cl,B3⟩:=B3
   simp only[execOp,Instr.lookup,hg,Sem.run_bind,run_underlying hu,Result.andThen_ok];cases o<;>cases ok<;>simp[run_getObj (P:=P) B3 (by simp),EB,hf,HE]
  ·exact B3.elim
 cases c<;>simp only at e2<;>first|cases e2|skip
 ·have hm:=hc.inv_nilm
  have:=AZ [] none (by rw[hm]) (run_findKey hd (by simp[Instr.findAsking]) (λd r' _ h=>by simp[Instr.findNow] at h;exact h.symm))
  cases ok with
  |true=>exact⟨_,e2,_,by simpa using this,GU.tup2 (.bool _)⟩
  |false=>exact⟨_,e2,_,by simpa using this,GU⟩
 ·rw[bV] at e2
  obtain⟨es,B3,e3⟩:=rX e2;obtain⟨b,N,hm,hb⟩:=hc.inv_map;obtain⟨AD,cl,g1,g2,_⟩:=H.map hb B3;have IY:=λo hf=>AZ AD o (by rw[hm];exact⟨_,g1⟩) hf
  cases ok with
  |true =>
   rcases lO (i:=0) H FZ hx g2 e3 with⟨f1,f2,f3⟩|⟨c,u,j,f1,f2,f3,f4⟩
   ·exact⟨_,f1,_,by simpa using IY _ (run_findKey hd f2 f3),GU.tup2 (.bool _)⟩
   ·exact⟨_,f1,_,by simpa using IY _ (run_findKey hd f3 f4),f2.tup2 (.bool _)⟩
  |false =>
   rcases lO (i:=0) H FZ hx g2 e3 with⟨f1,f2,f3⟩|⟨c,u,j,f1,f2,f3,f4⟩
   ·exact⟨_,f1,_,by simpa using IY _ (run_findKey hd f2 f3),GU⟩
   ·exact⟨_,f1,_,by simpa using IY _ (run_findKey hd f3 f4),f2⟩
theorem Y4(H:HR P w0 J h nx w){x:Operand}{t:TypeId}{b:PB}{a:Array Operand}{ts:Array TypeId}(ha:a.toList=[x])(EI:ts.toList=[t])(hb:(P.underlying t=some .string/\b=.lenS (aE P x))\/(∃el,P.underlying t=some (.slice el)/\b=.lenL (aE P x))\/(∃kt el,P.underlying t=some (.map kt el)/\b=.lenM (aE P x)))
  (hT:XR J tm tmps (Op.operands (.call ⟨.builtin .len,a,ts⟩)).toList) (e:pK b tm h k=.ok r):∃v,k v=.ok r/\PG P w J tmps ds ⟨dst,.call ⟨.builtin .len,a,ts⟩,ty,pos,AH,A8⟩ v:=by
 obtain⟨a⟩:=a;obtain⟨ts⟩:=ts;simp only at ha EI;subst ha;subst EI
 have hex:∀u,(Builtin.len_ #[t] ty #[ev tmps ds x]).run P w=.ok u w->(execOp (ev tmps ds) ⟨dst,.call ⟨.builtin .len,#[x],#[t]⟩,ty,pos,AH,A8⟩).run P w=.ok (.value u) w:=λu hu=>by
  simp[execOp,resolve,invoke,builtin];simp[ev] at hu;simp[hu]
 rcases hb with⟨hu,rfl⟩|⟨el,hu,rfl⟩|⟨kt,el,hu,rfl⟩
 ·simp only[pK] at e
  obtain⟨c,e1,hc⟩:=opd (ds:=ds) (o:=⟨dst,.call ⟨.builtin .len,#[x],#[t]⟩,ty,pos,AH,A8⟩) H hT (by simp[Op.operands,Call.operands]) e;obtain⟨l,n,ho,e2⟩:=qP e1;subst ho;obtain⟨s,hv,hl,hp⟩:=hc.inv_str;refine⟨_,e2,_,hex _ (by simp[Builtin.len_,run_underlying hu,hv,goInt];rfl),?_⟩
  have:(⟨⟨s⟩⟩:ByteArray).size=l:=hl
  rw[this];exact .int _ _
 ·simp only[pK] at e
  obtain⟨c,e1,hc⟩:=opd (ds:=ds) (o:=⟨dst,.call ⟨.builtin .len,#[x],#[t]⟩,ty,pos,AH,A8⟩) H hT (by simp[Op.operands,Call.operands]) e;obtain⟨a,l,cap,hv,e2,_⟩:=mj hc e1;exact⟨_,e2,.int .i64 l,hex _ (by simp[Builtin.len_,run_underlying hu,hv,goInt]),.int _ _⟩
 ·simp only[pK] at e
  obtain⟨c,e1,hc⟩:=opd (ds:=ds) (o:=⟨dst,.call ⟨.builtin .len,#[x],#[t]⟩,ty,pos,AH,A8⟩) H hT (by simp[Op.operands,Call.operands]) e;cases c<;>simp only at e1<;>first|cases e1|skip
  ·have hv:ev tmps ds x=.map none:=hc.inv_nilm
   exact⟨_,e1,.int .i64 0,hex _ (by simp[Builtin.len_,run_underlying hu,hv,goInt]),.int _ _⟩
  ·rw[bV] at e1
   obtain⟨es,B3,e2⟩:=rX e1;rw[cI] at e2;obtain⟨b,N,hv,hb⟩:=hc.inv_map;obtain⟨AD,cl,g1,g2,_⟩:=H.map hb B3;refine⟨_,e2,.int .i64 AD.length,hex _ (by simp[Builtin.len_,run_underlying hu,hv,run_getObj (P:=P) g1 (by simp),goInt]),?_⟩;rw[g2.len];exact .int _ _
theorem aO8(H:HR P w0 J h nx w){x y:Operand}{a:Array Operand}{ts:Array TypeId}(ha:a.toList=[x,y])(hT:XR J tm tmps (Op.operands (.call ⟨.builtin .max,a,ts⟩)).toList)(e:pK (.max (aE P x) (aE P y)) tm h k=.ok r) :
  ∃v,k v=.ok r/\PG P w J tmps ds ⟨dst,.call ⟨.builtin .max,a,ts⟩,ty,pos,AH,A8⟩ v:=by
 obtain⟨a⟩:=a;simp only at ha;subst ha;simp only[pK] at e;obtain⟨c,e1,hc⟩:=opd (ds:=ds) (o:=⟨dst,.call ⟨.builtin .max,#[x,y],ts⟩,ty,pos,AH,A8⟩) H hT (by simp[Op.operands,Call.operands]) e;obtain⟨d,e2,hd⟩:=opd (ds:=ds) (o:=⟨dst,.call ⟨.builtin .max,#[x,y],ts⟩,ty,pos,AH,A8⟩) H hT (by simp[Op.operands,Call.operands]) e1;obtain⟨ka,n,hn,e3⟩:=gk e2;obtain⟨kb,m,hm,e4⟩:=gk e3;subst hn;subst hm;have h1:=hc.inv_int;have h2:=hd.inv_int;rw[yX] at e4
 have hex:(execOp (ev tmps ds) ⟨dst,.call ⟨.builtin .max,#[x,y],ts⟩,ty,pos,AH,A8⟩).run P w=.ok (.value (.int ka (if m>n then m else n))) w:=by
  simp[execOp,resolve,invoke,builtin];simp[Builtin.max_,h1,h2,Builtin.max2]
 split at e4
 ·rename_i hb
  simp at hb;rw[Ax (by omega)] at hex;exact⟨_,e4,_,hex,.int _ _⟩
 ·rename_i hb
  simp at hb;rw[Bo (by omega)] at hex;exact⟨_,e4,_,hex,.int _ _⟩
end
end Go.CM
end
