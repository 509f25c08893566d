import Derived.Test.YtdkkaldimefljaaGreatDoorC03
import Derived.Laws.IdiomStrings
import Derived.Test.YtdkkaldimefljaaGreatDoorA07
set_option linter.all false
noncomputable section
namespace Go.CM
section
open Go.AM (oneC overwrite aR aN run_underlying run_sizeOf aS bA bO aU aT b8 cF bytes_beq run_getObj run_setObj fQ b9)
variable {P:Program}{w0 w:World}{J:Rho}{h:T O}{nx:Q}{tm:T V}{tmps:Array Value}{ds:List Deferred}{r v:V}
section
variable {dst:Option Nat}{ty:TypeId}{pos:String}{AH:Array Edge}{A8:Option (Nat×Bool)}{k:V->T O->Q->AA}
theorem wJ(AD:List MapEntry)(i:Nat):(⟨AD⟩:Array MapEntry)[i]?=AD[i]?:=by simp
theorem qc(AD:List MapEntry)(e:MapEntry):(⟨AD⟩:Array MapEntry).push e=⟨AD++[e]⟩:=by apply Cg;simp
theorem qY(AD:List MapEntry)(j:Nat)(f:MapEntry->MapEntry)(e:MapEntry)(he:AD[j]?=some e):(⟨AD⟩:Array MapEntry).modify j f=⟨AD.set j (f e)⟩:=by
 apply Cg;apply Fp;intro i;have AR:=(Ab.1 he).1;rw[Bq,Da,wJ];show _=(AD.set j (f e))[i]?;by_cases HS:j=i
 ·subst HS
  rw[Bo rfl,he,Hh AR];rfl
 ·rw[Ax HS,Ek HS]
theorem HR.setMap(H:HR P w0 J h nx w){o:Q}{b N:Nat}{es es':List (V×V)}{ents':List MapEntry}{cl':Nat}(ho:J o=some (b,N))(B3:h.ob o=.map es\/h.ob o=.mapd es)(hB:w0.heap.size<=b)(hb:b<w.heap.size)(hm:MR J es' ents')
  (Pu:h.ob o=.map es->Born ents' cl'):HR P w0 J (h.put .dead (RR (h.ob o) es') o) nx (w.putObj b (.map ⟨ents'⟩ cl'))/\Keep nx.nat J h J (h.put .dead (RR (h.ob o) es') o):=by
 rcases B3 with B3|B3
 ·rw[B3]
  exact H.putMap ho B3 rfl (λ_ _ _ _ _ _ e=>by cases e) rfl (λ_ _ _ _ _ _ e=>by cases e) hB (.map _ _ _ _ _ hB (World.putObj_heap_same hb) hm (Pu B3))
 ·rw[B3]
  exact H.putMap ho B3 rfl (λ_ _ _ _ _ _ e=>by cases e) rfl (λ_ _ _ _ _ _ e=>by cases e) hB (.mapd _ _ _ _ _ hB (World.putObj_heap_same hb) hm)
theorem HR.map'(H:HR P w0 J h nx w){o:Q}{b N:Nat}{es:List (V×V)}(ho:J o=some (b,N))(hm:h.ob o=.map es\/h.ob o=.mapd es):∃(AD:List MapEntry)(cl:Nat),w.heap[b]?=some (.map ⟨AD⟩ cl)/\MR J es AD/\w0.heap.size<=b/\(h.ob o=.map es->Born AD cl):=by
 have:=H.obj o b N ho
 rcases hm with hm|hm
 ·rw[hm] at this
  cases this with|map _ AD cl _ _ hb hw JH hc=>exact⟨AD,cl,hw,JH,hb,λ_=>hc⟩
 ·rw[hm] at this
  cases this with|mapd _ AD cl _ _ hb hw JH=>exact⟨AD,cl,hw,JH,hb,λe=>by rw[hm] at e;cases e⟩
theorem aPS(H:HR P w0 J h nx w){t el:TypeId}{s:KK}{m key x:Operand}{op:Op}(BJ:op=.mapUpdate t m key x\/op=.insert t m key x)(ht:tZ P t=some (s,el))(hT:XR J tm tmps op.operands.toList)(e:wK (.mu s (aE P m) (aE P key) (aE P x)) tm h nx k=.ok r) :
  ∃v h' nx',k v h' nx'=.ok r/\WG P w0 w J tmps ds ⟨dst,op,ty,pos,AH,A8⟩ h nx v h' nx':=by
 have hops:op.operands=#[m,key,x]:=by rcases BJ with rfl|rfl<;>rfl
 simp only[wK] at e;obtain⟨c,e1,hc⟩:=opd (ds:=ds) (o:=⟨dst,op,ty,pos,AH,A8⟩) H hT (by simp[hops]) e;obtain⟨kv,e2,HJ⟩:=opd (ds:=ds) (o:=⟨dst,op,ty,pos,AH,A8⟩) H hT (by simp[hops]) e1;obtain⟨xv,e3,Jc⟩:=opd (ds:=ds) (o:=⟨dst,op,ty,pos,AH,A8⟩) H hT (by simp[hops]) e2;obtain⟨e4,NI⟩:=rU e3;cases c<;>simp only at e4<;>first|cases e4|skip
 rename_i o;rw[bV] at e4;obtain⟨es,B3,e5⟩:=rX e4;obtain⟨b,N,hm,hb⟩:=hc.inv_map;obtain⟨AD,cl,g1,g2,g3,g4⟩:=H.map' hb B3;obtain⟨kt,hu,FZ⟩:=wS ht;obtain⟨d,hd⟩:=FZ.desc;have AR:=(Ad.1 g1).1;have BI:=run_getObj (P:=P) g1 (by simp);have dA:=λo'=>run_setObj (P:=P) (o':=o') g1 (by simp)
 have EB:=run_checkKey (w:=w) FZ HJ NI false 9998
 have fin:∀es' ents' cl',k V.undef (h.put .dead (RR (h.ob o) es') o) nx=.ok r->MR J es' ents'->(h.ob o=.map es->Born ents' cl')->(Instr.mapUpdate t (ev tmps ds m) (ev tmps ds key) (ev tmps ds x)).run P w=.ok () (w.putObj b (.map ⟨ents'⟩ cl')) ->
   ∃v h' nx',k v h' nx'=.ok r/\WG P w0 w J tmps ds ⟨dst,op,ty,pos,AH,A8⟩ h nx v h' nx':=λes' ents' cl' hk JH L9 AZ=>by
  obtain⟨f1,f2⟩:=H.setMap hb B3 g3 AR JH L9;refine⟨_,_,_,hk,_,J,_,.inr ⟨?_,rfl⟩,VR.undef,f1,f2,Ae _⟩;rcases BJ with rfl|rfl
  ·simp[execOp,AZ]
  ·simp[execOp,AZ]
 rcases pI (i:=0) H FZ HJ g2 e5 with⟨es',f1,f2,f3,f4⟩|⟨es',j,c',e',f1,f2,f3,f4,f5,f6,f7⟩
 ·rw[cM] at f1
  have G0:=run_findKey hd f3 f4;subst f2;refine fin _ (AD++[⟨ev tmps ds key,ev tmps ds x,cl⟩]) (cl+1) f1 (g2.push HJ Jc) (λh1=>(g4 h1).push _ _) ?_;rw[hm];simp only[Instr.mapUpdate,Sem.run_bind,run_underlying hu,Result.andThen_ok,BI,EB,G0,dA,qc]
 ·rw[cM] at f1
  have G0:=run_findKey hd f5 f6;subst f4;refine fin _ (AD.set j { e' with key:=ev tmps ds key,val:=ev tmps ds x }) cl f1 (g2.set HJ Jc) (λh1=>(g4 h1).set f2 rfl) ?_;rw[hm]
  have GA:(((⟨AD⟩:Array MapEntry)[0+j]?).map (·.key)).getD (ev tmps ds key)=e'.key:=by
   rw[Bn,wJ,f2];rfl
  have A7:(Instr.keyThatStays ((((⟨AD⟩:Array MapEntry)[0+j]?).map (·.key)).getD (ev tmps ds key)) (ev tmps ds key)).run P w=.ok (ev tmps ds key) w:=by
   rw[GA];exact sI f7
  simp only[Instr.mapUpdate,Sem.run_bind,run_underlying hu,Result.andThen_ok,BI,EB,G0,A7,dA];rw[Bn,qY _ _ _ _ f2]
theorem aSZ(H:HR P w0 J h nx w){t el:TypeId}{s:KK}{z:V}{m key:Operand}(ht:tZ P t=some (s,el))(hz:zeroV P el=some z)(hT:XR J tm tmps (Op.operands (.mapEntry t m key)).toList)(e:wK (.me s z (aE P m) (aE P key)) tm h nx k=.ok r) :
  ∃v h' nx',k v h' nx'=.ok r/\WG P w0 w J tmps ds ⟨dst,.mapEntry t m key,ty,pos,AH,A8⟩ h nx v h' nx':=by
 simp only[wK] at e;obtain⟨c,e1,hc⟩:=opd (ds:=ds) (o:=⟨dst,.mapEntry t m key,ty,pos,AH,A8⟩) H hT (by simp[Op.operands]) e;obtain⟨kv,e2,HJ⟩:=opd (ds:=ds) (o:=⟨dst,.mapEntry t m key,ty,pos,AH,A8⟩) H hT (by simp[Op.operands]) e1;obtain⟨e4,NI⟩:=rU e2;cases c<;>simp only at e4<;>first|cases e4|skip
 rename_i o;rw[bV] at e4;obtain⟨es,B3,e5⟩:=aAL e4;obtain⟨b,N,hm,hb⟩:=hc.inv_map;obtain⟨AD,cl,g1,g2,g3,g4⟩:=H.map' hb (.inl B3);have L9:=g4 B3;obtain⟨kt,hu,FZ⟩:=wS ht;obtain⟨d,hd⟩:=FZ.desc;obtain⟨zv,HF,GU,_⟩:=sQ (J:=J) hz;have HE:=aS (P:=P) (w:=w) HF;have AR:=(Ad.1 g1).1;have BI:=run_getObj (P:=P) g1 (by simp);have dA:=λo'=>run_setObj (P:=P) (o':=o') g1 (by simp)
 have EB:=run_checkKey (w:=w) FZ HJ NI false 9998
 have fin:∀es' ents' cl' i c u,k (.tup [c,.int .i64 (.ofNat i)]) (h.put .dead (.map es') o) nx=.ok r->MR J es' ents'->Born ents' cl'->VR J c u->(Instr.mapEntry t (ev tmps ds m) (ev tmps ds key)).run P w=.ok (.tuple #[u,.int .i64 i]) (w.putObj b (.map ⟨ents'⟩ cl')) ->
   ∃v h' nx',k v h' nx'=.ok r/\WG P w0 w J tmps ds ⟨dst,.mapEntry t m key,ty,pos,AH,A8⟩ h nx v h' nx':=λes' ents' cl' i c u hk JH AX WI AZ=>by
  obtain⟨f1,f2⟩:=H.setMap (cl':=cl') hb (.inl B3) g3 AR JH (λ_=>AX);rw[B3] at f1 f2;exact⟨_,_,_,hk,_,J,_,.inl (by simp[execOp,AZ]),WI.tup2 (.int _ _),f1,f2,Ae _⟩
 rcases pI (i:=0) H FZ HJ g2 e5 with⟨es',f1,f2,f3,f4⟩|⟨es',j,c',e',f1,f2,f3,f4,f5,f6,f7⟩
 ·rw[cM] at f1
  have G0:=run_findKey hd f3 f4;subst f2;have B5:es.length=cl:=by rw[g2.len,L9.1]
  rw[Bn,B5] at f1;refine fin _ (AD++[⟨ev tmps ds key,zv,cl⟩]) (cl+1) _ _ zv f1 (g2.push HJ GU) (L9.push _ _) GU ?_;rw[hm];simp only[Instr.mapEntry,Sem.run_bind,run_underlying hu,Result.andThen_ok,BI,EB,G0,dA,HE,Sem.run_pure,goInt,qc]
 ·rw[cM] at f1
  have G0:=run_findKey hd f5 f6;subst f4;rw[Bn] at f1;have hej:e'.born=j:=L9.2 j e' f2;refine fin _ (AD.set j { e' with key:=ev tmps ds key }) cl _ _ e'.val f1 (g2.set HJ f3) (L9.set f2 rfl) f3 ?_;rw[hm]
  have GA:(((⟨AD⟩:Array MapEntry)[0+j]?).map (·.key)).getD (ev tmps ds key)=e'.key:=by
   rw[Bn,wJ,f2];rfl
  have JK:(((⟨AD⟩:Array MapEntry)[0+j]?).map (λe=>(e.born:Int))).getD 0=(j:Int):=by
   rw[Bn,wJ,f2];simp[hej]
  have A7:(Instr.keyThatStays ((((⟨AD⟩:Array MapEntry)[0+j]?).map (·.key)).getD (ev tmps ds key)) (ev tmps ds key)).run P w=.ok (ev tmps ds key) w:=by
   rw[GA];exact sI f7
  simp only[Instr.mapEntry,Sem.run_bind,run_underlying hu,Result.andThen_ok,BI,EB,G0,A7,dA,JK,Sem.run_pure,goInt];rw[Bn,qY _ _ _ _ f2]
theorem aBg{v:V}:∀{i:Nat}{es:List (V×V)}{k:List (V×V)->AA},OO v i es k=.ok r->∃p,es[i]?=some p/\k (es.set i (p.1,v))=.ok r
 |i,[],k,e=>by cases i<;>cases e
 |0,(y,u)::es,k,e=>⟨_,rfl,e⟩
 |i+1,p::es,k,e=>by
  obtain⟨q,h1,h2⟩:=aBg (i:=i) (es:=es) e;exact⟨q,by simpa using h1,h2⟩
theorem ju{AD:List MapEntry}{cl:Nat}(hb:Born AD cl){j:Nat}{e:MapEntry}(he:AD[j]?=some e):(⟨AD⟩:Array MapEntry).findIdx? (λe=>(e.born:Int)==(j:Int))=some j:=by
 have AR:=(Ab.1 he).1;rw[show(⟨AD⟩:Array MapEntry)=AD.toArray from rfl,List.findIdx?_toArray,List.findIdx?_eq_some_iff_getElem];refine⟨AR,?_,λi hi=>?_⟩
 ·have:=hb.2 j AD[j] (by simp[AR])
  simp[this]
 ·have MK:i<AD.length:=by omega
  have:=hb.2 i AD[i] (by simp[MK])
  simp[this];omega
theorem aSY(H:HR P w0 J h nx w){t:TypeId}{m s x:Operand}(hT:XR J tm tmps (Op.operands (.entryStore t m s x)).toList)(e:wK (.es (aE P m) (aE P s) (aE P x)) tm h nx k=.ok r) :
  ∃v h' nx',k v h' nx'=.ok r/\WG P w0 w J tmps ds ⟨dst,.entryStore t m s x,ty,pos,AH,A8⟩ h nx v h' nx':=by
 simp only[wK] at e;obtain⟨c,e1,hc⟩:=opd (ds:=ds) (o:=⟨dst,.entryStore t m s x,ty,pos,AH,A8⟩) H hT (by simp[Op.operands]) e;obtain⟨sv,e2,Nt⟩:=opd (ds:=ds) (o:=⟨dst,.entryStore t m s x,ty,pos,AH,A8⟩) H hT (by simp[Op.operands]) e1;obtain⟨kd,i,hi,e3⟩:=jJ e2;subst hi;obtain⟨xv,e4,Jc⟩:=opd (ds:=ds) (o:=⟨dst,.entryStore t m s x,ty,pos,AH,A8⟩) H hT (by simp[Op.operands]) e3;cases c<;>simp only at e4<;>first|cases e4|skip
 rename_i o;rw[bV] at e4;obtain⟨es,B3,e5⟩:=aAL e4;obtain⟨p,hp,e6⟩:=aBg e5;rw[cM] at e6;obtain⟨b,N,hm,hb⟩:=hc.inv_map;obtain⟨AD,cl,g1,g2,g3,g4⟩:=H.map' hb (.inl B3);have L9:=g4 B3;have MK:i<AD.length:=by rw[<-g2.len];exact(Ab.1 hp).1
 obtain⟨en,GO⟩:∃en,AD[i]?=some en:=⟨AD[i],by simp[MK]⟩
 have AR:=(Ad.1 g1).1;have BI:=run_getObj (P:=P) g1 (by simp);have dA:=λo'=>run_setObj (P:=P) (o':=o') g1 (by simp)
 obtain⟨f1,f2⟩:=H.setMap (es':=es.set i (p.1,xv)) (ents':=AD.set i { en with val:=ev tmps ds x }) (cl':=cl) hb (.inl B3) g3 AR (g2.set (g2.key i p en hp GO) Jc) (λ_=>L9.set GO rfl);rw[B3] at f1 f2;refine⟨_,_,_,e6,_,J,_,.inr ⟨?_,rfl⟩,VR.undef,f1,f2,Ae _⟩;have hs:ev tmps ds s=.int kd (i:Int):=Nt.inv_int;have Vv:=ju L9 GO
 have:(Instr.entryStore t (ev tmps ds m) (ev tmps ds s) (ev tmps ds x)).run P w=.ok () (w.putObj b (.map ⟨AD.set i { en with val:=ev tmps ds x }⟩ cl)):=by
  rw[hm,hs];simp only[Instr.entryStore,Sem.run_bind,BI,Result.andThen_ok,asInt,asIntOf,Sem.run_pure,Vv,dA];rw[qY _ _ _ _ GO]
 simp[execOp,this]
end
end
section
open Go.AM (oneC overwrite aR aN run_underlying run_sizeOf run_typeInfo aS bA bO aU aT cF bytes_beq b9 dD cell_of_heap iC)
variable {P:Program}{w0 w:World}{J:Rho}{h:T O}{nx:Q}{tm:T V}{tmps:Array Value}{ds:List Deferred}{r v:V}
def j8(s:List UInt8):List Value:=s.map λb=>.int .u8 b.toNat
theorem xo:∀{l n:Nat}{s:List UInt8}{k:List V->AA},s.length=l->packL s=n->MY l n k=.ok r->∃cs,k cs=.ok r/\VRs J cs (j8 s)/\∀c∈cs,isCell c=true
 |0,n,[],k,hl,hp,e=>⟨[],e,.nil,by simp⟩
 |0,n,_::_,k,hl,hp,e=>by simp at hl
 |l+1,n,[],k,hl,hp,e=>by simp at hl
 |l+1,n,b::s,k,hl,hp,e=>by
  simp only[MY,aH] at e;have hb:b.toNat < 256:=b.toNat_lt;simp only[packL] at hp;have h1:n%256=b.toNat:=by omega
  have h2:n/256=packL s:=by omega
  rw[h1,h2] at e;obtain⟨cs,g1,g2,g3⟩:=xo (s:=s) (by simpa using hl) rfl e
  exact⟨_,g1,.cons (.int _ _) g2,λc hc=>by
   rcases Bb.1 hc with rfl|hc
   ·rfl
   ·exact g3 c hc⟩
theorem oK(H:HR P w0 J h nx w){sz:Nat}{v:V}{u:Value}{k:Nat->List V->AA}(hv:VR J v u)(e:jL sz v h k=.ok r) :
  ∃n cs us,k n cs=.ok r/\us.length=n*sz/\VRs J cs us/\(∀c∈cs,isCell c=true)/\(Builtin.lenOf u).run P w=.ok n w/\(∀w1:World,w1.heap=w.heap->(Builtin.firstCells sz n u).run P w1=.ok ⟨us⟩ w1)/\((∃s,u=.string s)\/∃a cap,u=.slice a n cap):=by
 have sl:∀{o:Q}{off len cap b N:Nat},J o=some (b,N)->u=.slice (some ⟨b,off,none⟩) len cap->(match len with|0=>k 0 []|len=>nP h o off (len*sz) λl=>k len l)=.ok r ->
   ∃n cs us,k n cs=.ok r/\us.length=n*sz/\VRs J cs us/\(∀c∈cs,isCell c=true)/\(Builtin.lenOf u).run P w=.ok n w/\(∀w1:World,w1.heap=w.heap->(Builtin.firstCells sz n u).run P w1=.ok ⟨us⟩ w1)/\((∃s,u=.string s)\/∃a cap,u=.slice a n cap):=λ{o off len cap b N} hb hu e=>by
  subst hu
  split at e
  ·exact⟨0,[],[],e,by simp,.nil,by simp,by simp[Builtin.lenOf],λw1 _=>by simp[Builtin.firstCells,loadCells,loadCellsFrom],.inr ⟨_,_,rfl⟩⟩
  ·obtain⟨n,t,h1,h2,e1⟩:=mh e
   obtain⟨us,g1,g2,g3,g4⟩:=H.cells hb h1 h2;exact⟨_,_,us,e1,g1,g3,g4,by simp[Builtin.lenOf],λw1 DJ=>dD g1 λp x hx=>(AM.cell_congr (by rw[DJ]) _).trans (g2 p x hx),.inr ⟨_,_,rfl⟩⟩
 cases hv with
 |nils=>exact⟨0,[],[],e,by simp,.nil,by simp,by simp[Builtin.lenOf],λw1 _=>by simp[Builtin.firstCells],.inr ⟨_,_,rfl⟩⟩
 |sl o off len cap b N hb hc=>exact sl hb rfl e
 |su o off len EK b N cap hb hc hr=>exact sl hb rfl e
 |se a cap=>exact⟨0,[],[],e,by simp,.nil,by simp,by simp[Builtin.lenOf],λw1 _=>by simp[Builtin.firstCells,loadCells,loadCellsFrom],.inr ⟨_,_,rfl⟩⟩
 |str l n s hl hn =>
  simp only[jL] at e;obtain⟨hg,e1⟩:=bW e;have hs:=Aa hg;subst hs;obtain⟨cs,g1,g2,g3⟩:=xo (J:=J) hl hn e1;refine⟨l,cs,j8 s,g1,by simp[j8,hl],g2,g3,?_,λw1 _=>?_,.inl ⟨_,rfl⟩⟩
  ·have:(⟨⟨s⟩⟩:ByteArray).size=l:=hl
   simp[Builtin.lenOf,this]
  ·have hex:(⟨⟨s⟩⟩:ByteArray).extract 0 l=⟨⟨s⟩⟩:=by
    have:=ByteArray.extract_mk s 0 l
    rw[show(⟨⟨s⟩⟩:ByteArray)=ByteArray.mk s.toArray from rfl,this];simp[<-hl]
   simp only[Builtin.firstCells,hex]
   have:(⟨s⟩:Array UInt8).map (λb=>Value.int .u8 b.toNat)=⟨j8 s⟩:=by apply Cg;simp[j8]
   rw[this];rfl
 |_=>cases e
section model
variable {ts:Array TypeId}{ty t1 t2 e:TypeId}{size AJ BH n:Nat}{x:Value}{us:List Value}
theorem l6{base:Option Addr}{w':World}(h1:ts[0]?=some t1)(h2:ts[1]?=some t2)(D9:P.underlying t1=some (.slice e))(DQ:∃d,P.underlying t2=some d/\∀k,d≠.int k)(BG:bA P e=some size)
  (hl:(Builtin.lenOf x).run P w=.ok n w) (hf:(Builtin.firstCells size n x).run P w=.ok ⟨us⟩ w) (CE:AJ+n<=BH)
  (A7:match base with|some a=>(storeCells (a.add (AJ*size)) us).run P w=.ok () w'|none=>w'=w) :
  (Builtin.append_ ts ty #[.slice base AJ BH,x]).run P w=.ok (.slice base (AJ+n) BH) w':=by
 obtain⟨d,DQ,hd⟩:=DQ;have h0:(#[.slice base AJ BH,x]:Array Value)[0]?=some (.slice base AJ BH):=rfl;have QP:(#[.slice base AJ BH,x]:Array Value)[1]?=some x:=rfl;simp only[Builtin.append_,Sem.run_bind,h1,h2,h0,QP,run_underlying D9,run_underlying DQ,run_sizeOf BG,Result.andThen_ok,Sem.run_pure];cases d<;>first|exact absurd rfl (hd _)|skip
 all_goals
  cases base with
  |none=>subst A7;simp[hl,hf,CE]
  |some a=>simp[hl,hf,CE,A7]
theorem xI{base:Option Addr}{z:Value}{old:List Value}(h1:ts[0]?=some t1)(h2:ts[1]?=some t2)(D9:P.underlying t1=some (.slice e))(DQ:∃d,P.underlying t2=some d/\∀k,d≠.int k)(BG:bA P e=some size)
  (hz:(P.info? e).bind (·.zero)=some z) (HD:z.cells.size=size) (JJ:aU P e<=16384) (G4:0<aU P e) (DV:AJ+n<=4294967296)
  (hl:(Builtin.lenOf x).run P w=.ok n w) (hf:∀w1:World,w1.heap=w.heap->(Builtin.firstCells size n x).run P w1=.ok ⟨us⟩ w1) (NL:∀w1:World,w1.heap=w.heap->(Builtin.firstCells size AJ (.slice base AJ BH)).run P w1=.ok ⟨old⟩ w1)
  (KN:old.length=AJ*size) (H9:us.length=n*size) (CE:¬AJ+n<=BH) :
  ∃AQ rest,AJ+n<=AQ/\(old++us++rest).length=AQ*size /\
   (Builtin.append_ ts ty #[.slice base AJ BH,x]).run P w=.ok (.slice (some ⟨w.heap.size,0,none⟩) (AJ+n) AQ) (w.drew.alloc (.cells ⟨old++us++rest⟩ e)):=by
 obtain⟨d,DQ,hd⟩:=DQ;obtain⟨ti,D0,IQ⟩:=dC hz;have hbt:aU P e=ti.bytes:=by simp[aU,D0]
 have HU:=AM.nextslicecap_le (need:=AJ+n) (c:=BH) (by omega)
 have Hr:¬Builtin.nextslicecap (AJ+n) BH*ti.bytes>2^48:=by
  have h1:Builtin.nextslicecap (AJ+n) BH*ti.bytes<=(2*(AJ+n)+512)*16384:=Gh HU (by rw[<-hbt];exact JJ);omega
 have GZ:¬ti.bytes=0:=by rw[<-hbt];omega
 obtain⟨AQ,hnc,G3⟩:∃AQ,AJ+n<=AQ/\(Question.appendCap (AJ+n) BH e).cut (w.tape w.drawn (Question.appendCap (AJ+n) BH e))=AQ :=
  ⟨_,by simp only[Question.cut];omega,rfl⟩
 obtain⟨w1,DJ⟩:∃w1,w1=w.drew:=⟨_,rfl⟩
 have hw1h:w1.heap=w.heap:=by rw[DJ];rfl
 have hfoq:(Question.appendCap (AJ+n) BH e).forced=false:=rfl;refine⟨AQ,(Builtin.zeroCells z.cells (AQ-(AJ+n))).toList,hnc,?_,?_⟩
 ·have e1:AQ*size=(AJ+n)*size+(AQ-(AJ+n))*size:=by rw[<-Ct];congr 1;omega
  simp only[Bu,KN,H9,Fh,iC,HD];rw[e1,Ct]
 ·have h0:(#[.slice base AJ BH,x]:Array Value)[0]?=some (.slice base AJ BH):=rfl
  have QP:(#[.slice base AJ BH,x]:Array Value)[1]?=some x:=rfl;simp only[Builtin.append_,Sem.run_bind,h1,h2,h0,QP,run_underlying D9,run_underlying DQ,run_sizeOf BG,Result.andThen_ok,Sem.run_pure];cases d<;>first|exact absurd rfl (hd _)|skip
  all_goals
   simp[hl,CE,run_typeInfo D0,GZ,Hr,hfoq,G3,<-DJ,NL w1 hw1h,hf w1 hw1h,aS hz,newRow,hw1h];congr 2;apply Cg;simp
end model
end
section
open Go.AM (oneC overwrite aR aN run_underlying run_sizeOf aS bA bO aU aT cF bytes_beq b9 cell_of_heap)
variable {P:Program}{w0 w:World}{J:Rho}{h:T O}{nx:Q}{tm:T V}{tmps:Array Value}{ds:List Deferred}{r v:V}
theorem HR.make(H:HR P w0 J h nx w){x:Obj}{N:Nat}{ob:O}(ho:OR P (J.set nx w.heap.size N) (w.alloc x) w0.heap.size ob w.heap.size N) :
  HR P w0 (J.set nx w.heap.size N) (h.put .dead ob nx) nx.succ (w.alloc x)/\Keep nx.nat J h (J.set nx w.heap.size N) (h.put .dead ob nx):=by
 have hq:=H.fresh nx (Ae _);have H1:=H.pend hq ob (nx':=nx.succ) (by rw[Q.nat_succ];omega) (by rw[Q.nat_succ];omega);refine⟨H1.born hq (by rw[Q.nat_succ];omega) (by rw[cB,Bo rfl];exact ho),Rho.set_le hq,λq AR hn=>?_⟩;have BD:q≠nx:=λe=>by subst e;omega
 exact⟨by simp[Rho.set,BD,hn],by rw[cB,Ax (Co BD)]⟩
theorem HR.share(H:HR P w0 J h nx w){b N:Nat}{ob:O}(hb:b<w.heap.size)(ho:OR P (J.set nx b N) w w0.heap.size ob b N)(hs:∀q N',J q=some (b,N')->Sh ob (h.ob q) q/\R7 (h.ob q)=false) :
  HR P w0 (J.set nx b N) (h.put .dead ob nx) nx.succ w/\Keep nx.nat J h (J.set nx b N) (h.put .dead ob nx):=by
 have hq:=H.fresh nx (Ae _);have hle:=Rho.set_le (b:=b) (N:=N) hq
 have FE:∀q b' N',J.set nx b N q=some (b',N')->(q=nx/\b'=b/\N'=N)\/(q≠nx/\J q=some (b',N')):=λq b' N' e=>by
  unfold Rho.set at e
  split at e
  ·simp at e;exact .inl ⟨by assumption,e.1.symm,e.2.symm⟩
  ·exact .inr ⟨by assumption,e⟩
 refine⟨⟨H.size,H.old,H.os,H.tape,H.output,λg hg=>?_,λq hn=>?_,λq b' N' e=>?_,λq b' N' e=>?_,λq q' b' N1 N2 BD e1 e2=>?_,λq hn=>?_⟩,hle,λq AR hn=>?_⟩
 ·obtain⟨N',e⟩:=H.glob g hg;exact⟨N',hle _ _ e⟩
 ·rw[Q.nat_succ] at hn
  unfold Rho.set;rw[Ax (λe=>by subst e;omega)];exact H.fresh q (by omega)
 ·rcases FE q b' N' e with⟨_,rfl,_⟩|⟨_,e⟩
  ·exact hb
  ·exact H.lt q b' N' e
 ·rcases FE q b' N' e with⟨rfl,rfl,rfl⟩|⟨BD,e⟩
  ·rw[cB,Bo rfl];exact ho
  ·rw[cB,Ax (Co BD)];exact(H.obj q b' N' e).mono hle rfl
 ·rcases FE q b' N1 e1 with⟨a1,a2,a3⟩|⟨h1,f1⟩
  ·rcases FE q' b' N2 e2 with⟨a4,_,_⟩|⟨h2,f2⟩
   ·exact absurd (a1.trans a4.symm) BD
   ·rw[a2] at f2
    rw[a1,cB,Bo rfl,cB,Ax (Co h2)];exact(hs q' N2 f2).1
  ·rcases FE q' b' N2 e2 with⟨a4,a5,a6⟩|⟨h2,f2⟩
   ·rw[a5] at f1
    rw[a4,cB,Ax (Co h1),cB,Bo rfl];exact Sh.of_not (hs q N1 f1).2
   ·rw[cB,Ax (Co h1),cB,Ax (Co h2)];exact H.sep q q' b' N1 N2 BD f1 f2
 ·rw[Q.nat_succ] at hn
  rw[cB,Ax (λe=>by subst e;omega)];exact H.dead q (by omega)
 ·have BD:q≠nx:=λe=>by subst e;omega
  exact⟨by simp[Rho.set,BD,hn],by rw[cB,Ax (Co BD)]⟩
theorem ur{b:Nat}{x:Obj}(h:w.heap[b]?=some x):w.putObj b x=w:=by
 unfold World.putObj;have hb:=Ad.1 h
 have:w.heap.setIfInBounds b x=w.heap:=by
  apply Eh;intro j;by_cases hj:b=j
  ·subst hj;obtain⟨DD,EP⟩:=hb;simp[DD,EP]
  ·simp[Bt hj]
 rw[this]
theorem HR.toRo(H:HR P w0 J h nx w){o:Q}{b N n B6 ty:Nat}{t:T V}{BT:List Q}{ex:Bool}(ho:J o=some (b,N))(hr:h.ob o=.row n t BT B6 ty ex){Vs us:List Value}{T:TypeId}{fz:Nat×Nat}(hw:w.heap[b]?=some (.cells ⟨Vs⟩ T (0,0)))(hu:n+us.length<=Vs.length\/us=[]) :
  HR P w0 J (h.put .dead (.ro n t) o) nx (w.putObj b (.cells ⟨overwrite Vs n us⟩ T fz))/\Keep nx.nat J h J (h.put .dead (.ro n t) o)/\∀q N',J q=some (b,N')->(h.put .dead (.ro n t) o).ob q=.dead\/q=o\/∃n' t',(h.put .dead (.ro n t) o).ob q=.ro n' t'/\q∈BT/\n'<=B6:=by
 have hO:=H.obj o b N ho;rw[hr] at hO;cases hO with
 |row _ _ _ _ _ _ _ _ vs hB C4 hN hn hf he ha hx hk =>
 rw[hw] at C4;simp at C4;obtain⟨rfl,rfl⟩:=C4;have E0:=(Ad.1 hw).1;have D1:(w.putObj b (.cells ⟨overwrite Vs n us⟩ T fz)).heap[b]?=some (.cells ⟨overwrite Vs n us⟩ T fz):=World.putObj_heap_same E0
 have hlen:(overwrite Vs n us).length=Vs.length:=by
  rcases hu with hu|rfl
  ·exact aN _ _ _ hu
  ·simp[overwrite]
 have BI:∀i u,i<n->(overwrite Vs n us)[i]?=some u->Vs[i]?=some u:=λi u hi EA=>by
  rcases hu with hu|rfl
  ·rw[aR _ _ _ _ hu,Bo hi] at EA;exact EA
  ·simpa[overwrite] using EA
 have C6:∀q N' n' t',J q=some (b,N')->h.ob q=.ro n' t'->n'<=n->OR P J (w.putObj b (.cells ⟨overwrite Vs n us⟩ T fz)) w0.heap.size (.ro n' t') b N':=λq N' n' t' hq V6 hno=>by
  have:=H.obj q b N' hq
  rw[V6] at this;cases this with
  |ro _ _ _ _ ZR T' fz' HG LX IU EO =>
  rw[hw] at HG;simp at HG;obtain⟨rfl,rfl,_⟩:=HG;exact .ro _ _ _ _ _ _ _ D1 (by rw[hlen];exact LX) (λi u hi EA=>IU i u hi (BI i u (by omega) EA)) EO
 have Ji:∀q N',q≠o->J q=some (b,N')->h.ob q=.dead\/∃n' t',h.ob q=.ro n' t'/\q∈BT/\n'<=B6:=λq N' BD hq=>by
  have hs:=H.sep o q b N N' (Co BD) ho hq;rw[hr] at hs;exact hs
 refine⟨H.upd ho hB ?_ (λq hq=>.inl (by rw[cB,Ax (Co hq)])) λq N' hq GY=>?_,.of λq hq=>by rw[cB,Ax (λe=>by subst e;rw[ho] at hq;cases hq)],λq N' GY=>?_⟩
 ·rw[cB,Bo rfl]
  exact .ro _ _ _ _ _ _ _ D1 (by rw[hlen,hN];exact hn) (λi u hi EA=>hx i u hi (BI i u hi EA)) hk
 ·rw[cB,Ax (Co hq),cB,Bo rfl]
  rcases Ji q N' hq GY with h1|⟨n',t',h1,h2,h3⟩
  ·rw[h1];exact⟨.dead _ _,Sh.dead _ _,rfl⟩
  ·rw[h1];exact⟨C6 q N' n' t' GY h1 (by omega),trivial,rfl⟩
 ·by_cases hq:q=o
  ·exact .inr (.inl hq)
  ·rw[cB,Ax (Co hq)]
   rcases Ji q N' hq GY with h1|h1
   ·exact .inl h1
   ·exact .inr (.inr h1)
section app
variable {ts:Array TypeId}{ty t1 t2 e:TypeId}{sz:Nat}{k:V->T O->Q->AA}
def Ty(P:Program)(w0 w:World)(J:Rho)(h:T O)(nx:Q)(run:Result Value)(k:V->T O->Q->AA)(r:V):Prop :=
 ∃v h' nx' w' J' u,k v h' nx'=.ok r/\run=.ok u w'/\VR J' v u/\HR P w0 J' h' nx' w'/\Keep nx.nat J h J' h'/\nx.nat<=nx'.nat
theorem aEv(H:HR P w0 J h nx w){len m AQ:Nat}{old new:List V}{oldU us rest:List Value}{run:Result Value}(ho:VRs J old oldU)(hn:VRs J new us)(KN:oldU.length=len*sz)(H9:us.length=m*sz)(F9:∀c∈old,isCell c=true)(Mz:∀c∈new,isCell c=true)
  (GG:len+m<=AQ) (hlen:(oldU++us++rest).length=AQ*sz) (AZ:run=.ok (.slice (some ⟨w.heap.size,0,none⟩) (len+m) AQ) (w.drew.alloc (.cells ⟨oldU++us++rest⟩ e))) (hk:pY e sz len m old new h nx k=.ok r) :
  Ty P w0 w J h nx run k r:=by
 unfold pY at hk;obtain⟨_,hk⟩:=bW hk;rw[dT,dT,aH,aH,cM,eD] at hk;have I1:old.length=len*sz:=by rw[ho.1,KN]
 have KO:new.length=m*sz:=by rw[hn.1,H9]
 have hputs:dP new (len*sz) (dP old 0 .nil)=dP (old++new) 0 .nil:=by rw[mI,Bn,I1]
 rw[hputs] at hk;have Hd:HR P w0 J h nx w.drew:=H.drawn _;have hq:=H.fresh nx (Ae _);have hle:=Rho.set_le (b:=w.heap.size) (N:=AQ*sz) hq;have CN:=(ho.append hn).mono hle;have hTL:=TL.puts (old++new) .nil;have BG:(old++new).length=(len+m)*sz:=by rw[Bu,I1,KO,Ct]
 have CG:∀c∈old++new,isCell c=true:=λc hc=>by
  rcases Bs.1 hc with h1|h1
  ·exact F9 c h1
  ·exact Mz c h1
 obtain⟨f1,f2⟩:=Hd.make (x:=.cells ⟨oldU++us++rest⟩ e) (N:=AQ*sz) (ob:=.row ((len+m)*sz) (dP (old++new) 0 .nil) [] 0 e false) (by
  refine .row _ _ _ _ _ _ _ _ _ H.size (AM.heap_alloc_new (w:=w.drew) _) hlen (Cr _ GG) (En _) (λh=>by cases h) (λa ha=>by cases ha) (λi u hi hu=>?_) λi hi=>?_
  ·have EJ:i<(old++new).length:=by rw[BG];exact hi
   rw[hTL i (old++new)[i] (by simp[EJ])];refine CN.2 i _ u (by simp[EJ]) ?_;rw[Bg (by rw[<-CN.1];exact EJ)] at hu;exact hu
  ·have EJ:i<(old++new).length:=by rw[BG];exact hi
   rw[hTL i (old++new)[i] (by simp[EJ])];exact CG _ (El EJ))
 exact⟨_,_,_,_,_,_,hk,AZ,.su _ _ _ _ _ _ _ Rho.set_same GG (by rw[Bn]),f1,f2,by rw[Q.nat_succ];omega⟩
theorem aKR(H:HR P w0 J h nx w)(h1:ts[0]?=some t1)(h2:ts[1]?=some t2)(D9:P.underlying t1=some (.slice e))(DQ:∃d,P.underlying t2=some d/\∀k,d≠.int k)(BG:bA P e=some sz)(CR:0<sz)
  {z:Value} (hz:(P.info? e).bind (·.zero)=some z) (HD:z.cells.size=sz) (JJ:aU P e<=16384) (G4:0<aU P e) {a:V} {ua x:Value} (ha:VR J a ua) {m:Nat} {new:List V} {us:List Value} (hn:VRs J new us) (H9:us.length=m*sz) (Mz:∀c∈new,isCell c=true)
  (hl:(Builtin.lenOf x).run P w=.ok m w) (hf:∀w1:World,w1.heap=w.heap->(Builtin.firstCells sz m x).run P w1=.ok ⟨us⟩ w1) (hk:K4 e sz a m new h nx k=.ok r) :
  Ty P w0 w J h nx ((Builtin.append_ ts ty #[ua,x]).run P w) k r:=by
 have Il:=hn.oneC Mz;have h0:m=0->us=[]:=λe=>by subst e;simpa using H9
 have J7:∀{len:Nat}{base:Option Addr}{cap:Nat}{old:List V}{oldU:List Value},VRs J old oldU->oldU.length=len*sz->(∀c∈old,isCell c=true)->(∀w1:World,w1.heap=w.heap->(Builtin.firstCells sz len (.slice base len cap)).run P w1=.ok ⟨oldU⟩ w1)->¬len+m<=cap ->
   pY e sz len m old new h nx k=.ok r->Ty P w0 w J h nx ((Builtin.append_ ts ty #[.slice base len cap,x]).run P w) k r:=λ{len base cap old oldU} ho KN F9 NL CE hg=>by
  have DV:len+m<=4294967296:=by
   unfold pY at hg;exact Ah (bW hg).1
  obtain⟨AQ,rest,g1,g2,g3⟩:=xI (ty:=ty) h1 h2 D9 DQ BG hz HD JJ G4 DV hl hf NL KN H9 CE;exact aEv H ho hn KN H9 F9 Mz g1 g2 g3 hg
 have FN:∀{len cap:Nat}{base:Option Addr}{v:V},m=0->len<=cap->VR J v (.slice base len cap)->k v h nx=.ok r->Ty P w0 w J h nx ((Builtin.append_ ts ty #[.slice base len cap,x]).run P w) k r:=λ{len cap base v} hm hc hv hk2=>by
  have PI:=h0 hm;subst hm;refine⟨_,_,_,w,J,_,hk2,l6 (ty:=ty) h1 h2 D9 DQ BG hl (hf w rfl) (by omega) ?_,hv,H,Keep.refl _ _ _,Ae _⟩;cases base with
  |none=>rfl
  |some a=>simp[PI,storeCells]
 cases ha with
 |nils =>
  simp only[K4] at hk
  split at hk
  ·exact FN rfl (Ae _) .nils hk
  ·rename_i hm
   exact J7 (old:=[]) (oldU:=[]) .nil (by simp) (by simp) (λw1 _=>by simp[Builtin.firstCells]) (λhle=>hm (by omega)) hk
 |sl o off len cap b N hb hc =>
  simp only[K4] at hk
  split at hk
  ·rename_i hle
   have hle:=Ah hle
   split at hk
   ·exact FN rfl hc (.sl _ _ _ _ _ _ hb hc) hk
   ·obtain⟨h',Vs,T,f1,f2,f3,f4,f5⟩:=ou H hb hn Mz hk
    rw[aH] at f1;have A7:=b9 (P:=P) (T:=T) us (off+len*sz) 0 w Vs f2 Il (by simpa using f3);rw[Bk] at A7;exact⟨_,_,_,_,J,_,f1,l6 (ty:=ty) h1 h2 D9 DQ BG hl (hf w rfl) hle (by simp only[cF];exact A7),.sl _ _ _ _ _ _ hb hle,f4,f5,Ae _⟩
  ·rename_i hle
   have hle:¬len+m<=cap:=λh=>by rw[Aj h] at hle;cases hle
   obtain⟨n',cs,oldU,g1,g2,g3,g4,g5,g6,g7⟩:=oK H (.sl o off len cap b N hb hc) hk;have MG:n'=len:=by simpa[Builtin.lenOf] using g5.symm
   subst MG;exact J7 g3 g2 g4 g6 hle g1
 |su o off len EK b N cap hb hc hr =>
  simp only[K4] at hk;obtain⟨hg,hk⟩:=bW hk;have HO:=Aa hg
  split at hk
  ·refine FN rfl hc ?_ hk
   rw[HO];exact .su _ _ _ _ _ _ _ hb hc hr
  ·rw[bV] at hk
   rw[<-HO] at hr
   split at hk
   ·rename_i n t BT B6 E5 ex BP
    have hO:=H.obj o b N hb;rw[BP] at hO;cases hO with
    |row _ _ _ _ _ _ _ _ Vs hB hw hN hnN OA he ha hx GA =>
    split at hk
    ·rename_i hle
     have hle:=Ah hle
     have CE:len+m<=cap:=by
      have:(len+m)*sz<=cap*sz:=by omega
      exact Nat.le_of_mul_le_mul_right this CR
     obtain⟨h',ZR,T,f1,f2,f3,f4,f5⟩:=ou H hb hn Mz hk;rw[aH] at f1;have A7:=b9 (P:=P) (T:=T) us (off+len*sz) 0 w ZR f2 Il (by simpa using f3);rw[Bk] at A7;exact⟨_,_,_,_,J,_,f1,l6 (ty:=ty) h1 h2 D9 DQ BG hl (hf w rfl) CE (by simp only[cF];exact A7),.su _ _ _ _ _ _ _ hb CE hr,f4,f5,Ae _⟩
    ·obtain⟨DX,hk⟩:=bW hk
     simp only[Ac] at DX;obtain⟨⟨⟨q1,q2⟩,q3⟩,q4⟩:=DX;have q1:=Aa q1;have q2:=Aa q2;have q3:=Aa q3;have q4:=Ah q4;subst q2;rw[Bn] at q1 hr;rw[dT,aH,aH,cM,cM,eD] at hk;have hq:=H.fresh nx (Ae _);have hno:o≠nx:=λe=>by subst e;rw[hb] at hq;cases hq
     have Hr:new.length=m*sz:=by rw[hn.1,H9]
     have row:∀{J':Rho}{w':World}{b' N':Nat}{L:List Value},J.le J'->w0.heap.size<=b'->w'.heap[b']?=some (.cells ⟨L⟩ E5 (0,0))->L.length=N'->n+m*sz<=N'->(∀i u,i<n->L[i]?=some u->VR J (t.at i) u)->(∀i,i<m*sz->L[n+i]?=us[i]?) ->
       OR P J' w' w0.heap.size (.row (n+m*sz) (dP new n t) (o::BT) n E5 false) b' N':=λ{J' w' b' N' L} hle hB' C4 hL hN' hold D1=>by
      refine .row _ _ _ _ _ _ _ _ L hB' C4 hL hN' (by omega) (λh=>by cases h) (λa I9=>?_) (λi u hi hu=>?_) λi hi=>?_
      ·rcases Bb.1 I9 with rfl|I9
       ·rw[hle _ _ hb];simp
       ·cases e:J a with
        |none=>exact absurd e (ha a I9)
        |some y=>rw[hle a y e];simp
      ·rw[jF]
       by_cases GN:i<n
       ·rw[Ax (by omega)];exact(hold i u GN hu).mono hle
       ·have hj:i-n<m*sz:=by omega
        rw[Bo ⟨by omega,by omega⟩];rw[show i=n+(i-n) by omega,D1 _ hj] at hu;refine(hn.2 (i-n) _ u ?_ hu).mono hle;simp[Br,Hr,hj]
      ·rw[jF]
       split
       ·refine Mz _ ?_
        have hj:i-n<new.length:=by omega
        simp[Br,hj]
       ·exact GA i (by omega)
     by_cases CE:len+m<=cap
     ·have hmul:(len+m)*sz<=cap*sz:=Cr _ CE
      have hmul2:(len+m)*sz=len*sz+m*sz:=Ct _ _ _;have D3:n+us.length<=Vs.length:=by rw[H9,hN];omega
      obtain⟨f1,f2,f3⟩:=H.toRo (fz:=(0,0)) hb BP hw (.inl D3);have A7:=b9 (P:=P) (T:=E5) us (len*sz) 0 w Vs hw Il (by rw[H9,hN];omega);rw[Bk,q1] at A7;have E0:=(Ad.1 hw).1;have hlw:(overwrite Vs n us).length=N:=by rw[aN _ _ _ D3];exact hN
      obtain⟨s1,s2⟩:=f1.share (b:=b) (N:=N) (ob:=.row (n+m*sz) (dP new n t) (o::BT) n E5 false) (by simpa using E0)
       (row (Rho.set_le hq) hB (World.putObj_heap_same E0) hlw (by omega) (λi u hi hu=>by
        rw[aR _ _ _ _ D3,Bo hi] at hu;exact hx i u hi hu) (λi hi=>by
        rw[aR _ _ _ _ D3,Ax (by omega),Bo (by omega)];congr 1;omega))
       (λq N' GY=>by
        rcases f3 q N' GY with h3|rfl|⟨n',t',h3,h4,h5⟩
        ·rw[h3];exact⟨Sh.dead _ _,rfl⟩
        ·rw[cB,Bo rfl];exact⟨.inr ⟨n,t,rfl,by simp,Ae _⟩,rfl⟩
        ·rw[h3];exact⟨.inr ⟨n',t',rfl,by simp[h4],by omega⟩,rfl⟩)
      refine⟨_,_,_,_,_,_,hk,l6 (ty:=ty) h1 h2 D9 DQ BG hl (hf w rfl) CE (by simp only[cF,Bn,q1];exact A7),.su _ _ _ _ _ _ _ Rho.set_same CE (by omega),s1,f2.trans s2,by rw[Q.nat_succ];omega⟩
     ·obtain⟨n',cs,oldU,g1,g2,g3,g4,g5,g6,g7⟩:=oK (k:=λ_ l=>.ok (.agg l)) H (sz:=sz) (.su o 0 len sz b N cap hb hc (by omega)) (r:=.agg (mU (len*sz) 0 t)) (by
       simp only[jL];cases len with
       |zero=>simp[mU]
       |succ len =>
        simp only[nP,bV,BP,br,rQ];rw[show Nat.ble (0+(len+1)*sz) n=true from Aj (by omega)];rfl)
      have CI:cs=mU (len*sz) 0 t:=by simpa using g1
      have MG:n'=len:=by simpa[Builtin.lenOf] using g5.symm
      subst MG;subst CI;obtain⟨AQ,rest,c1,c2,c3⟩:=xI (ty:=ty) h1 h2 D9 DQ BG hz HD JJ G4 q4 hl hf g6 g2 H9 CE;have Hd:HR P w0 J h nx w.drew:=H.drawn _;obtain⟨f1,f2,f3⟩:=Hd.toRo (us:=[]) (fz:=(0,0)) hb BP (show w.drew.heap[b]?=_ from hw) (.inr rfl);have ME:overwrite Vs n []=Vs:=by simp[overwrite]
      rw[ME,ur (w:=w.drew) (show w.drew.heap[b]?=_ from hw)] at f1;have S8:AQ*sz=AQ*sz:=rfl;have I3:(n'+m)*sz<=AQ*sz:=Cr _ c1;have hmul2:(n'+m)*sz=n'*sz+m*sz:=Ct _ _ _
      obtain⟨s1,s2⟩:=f1.make (x:=.cells ⟨oldU++us++rest⟩ e) (N:=AQ*sz) (ob:=.row (n+m*sz) (dP new n t) (o::BT) n E5 false)
       (row (Rho.set_le hq) H.size (by rw[<-q3];exact AM.heap_alloc_new (w:=w.drew) _) c2 (by omega) (λi u hi hu=>by
        rw[As,Bg (by omega)] at hu;exact g3.2 i _ u (by rw[tU (by omega),Bn]) hu) (λi hi=>by
        rw[As,Bh (by omega),Bg (by omega)];congr 1;omega))
      exact⟨_,_,_,_,_,_,hk,c3,.su _ _ _ _ _ _ _ Rho.set_same c1 (by omega),s1,f2.trans s2,by rw[Q.nat_succ];omega⟩
   ·cases hk
 |_=>cases hk
end app
end
section
open Go.AM (oneC overwrite aR aN run_underlying run_sizeOf aS bA bO aU aT cF bytes_beq b9 cell_of_heap)
variable {P:Program}{w0 w:World}{J:Rho}{h:T O}{nx:Q}{tm:T V}{tmps:Array Value}{ds:List Deferred}{r v:V}
variable {dst:Option Nat}{ty:TypeId}{pos:String}{AH:Array Edge}{A8:Option (Nat×Bool)}{k:V->T O->Q->AA}
theorem aSW(H:HR P w0 J h nx w){x y:Operand}{t u e:TypeId}{sz:Nat}{z:List V}{a:Array Operand}{ts:Array TypeId}(ha:a.toList=[x,y])(EI:ts.toList=[t,u])(he:P.underlying t=some (.slice e))(hu:∃d,P.underlying u=some d/\∀k,d≠.int k)
  (hs:bA P e=some sz) (hz:mX P e=some z) (CR:0<sz) (JJ:aU P e<=16384) (G4:0<aU P e) (hT:XR J tm tmps (Op.operands (.call ⟨.builtin .append,a,ts⟩)).toList) (e:wK (.ap e sz (aE P x) (aE P y)) tm h nx k=.ok r) :
  ∃v h' nx',k v h' nx'=.ok r/\WG P w0 w J tmps ds ⟨dst,.call ⟨.builtin .append,a,ts⟩,ty,pos,AH,A8⟩ h nx v h' nx':=by
 obtain⟨a⟩:=a;obtain⟨ts⟩:=ts;simp only at ha EI;subst ha;subst EI;simp only[wK] at e;obtain⟨c,e1,hc⟩:=opd (ds:=ds) (o:=⟨dst,.call ⟨.builtin .append,#[x,y],#[t,u]⟩,ty,pos,AH,A8⟩) H hT (by simp[Op.operands,Call.operands]) e;obtain⟨d,e2,hd⟩:=opd (ds:=ds) (o:=⟨dst,.call ⟨.builtin .append,#[x,y],#[t,u]⟩,ty,pos,AH,A8⟩) H hT (by simp[Op.operands,Call.operands]) e1;obtain⟨m,cs,us,e3,g1,g2,g3,g4,g5,_⟩:=oK H hd e2;obtain⟨_,e4⟩:=bW e3;obtain⟨zv,z1,z2,z3,z4,z5⟩:=oJ (J:=J) hz
 have HD:zv.cells.size=sz:=by
  rw[hs] at z2
  have:=z3.1
  simp at this z2;omega
 obtain⟨v,h',nx',w',J',uu,f1,f2,f3,f4,f5,f6⟩:=aKR (ts:=#[t,u]) (ty:=ty) H (t1:=t) (t2:=u) rfl rfl he hu hs CR z1 HD JJ G4 hc g2 g1 g3 g4 g5 e4;refine⟨v,h',nx',f1,w',J',uu,.inl ?_,f3,f4,f5,f6⟩;simp[execOp,resolve,invoke,builtin];simp[ev] at f2;simp[f2]
theorem aSX(H:HR P w0 J h nx w){x y:Operand}{t e:TypeId}{sz:Nat}{a:Array Operand}{ts:Array TypeId}(ha:a.toList=[x,y])(EI:ts[0]?=some t)(he:P.underlying t=some (.slice e))(hs:bA P e=some sz)
  (hT:XR J tm tmps (Op.operands (.call ⟨.builtin .copy,a,ts⟩)).toList) (e:wK (.cp sz (aE P x) (aE P y)) tm h nx k=.ok r) :
  ∃v h' nx',k v h' nx'=.ok r/\WG P w0 w J tmps ds ⟨dst,.call ⟨.builtin .copy,a,ts⟩,ty,pos,AH,A8⟩ h nx v h' nx':=by
 obtain⟨a⟩:=a;simp only at ha;subst ha;simp only[wK] at e;obtain⟨c,e1,hc⟩:=opd (ds:=ds) (o:=⟨dst,.call ⟨.builtin .copy,#[x,y],ts⟩,ty,pos,AH,A8⟩) H hT (by simp[Op.operands,Call.operands]) e;obtain⟨d,e2,hd⟩:=opd (ds:=ds) (o:=⟨dst,.call ⟨.builtin .copy,#[x,y],ts⟩,ty,pos,AH,A8⟩) H hT (by simp[Op.operands,Call.operands]) e1;obtain⟨a0,n,cap,hv,e3,_⟩:=mj hc e2;obtain⟨m,cs,us,e4,g1,g2,g3,g4,g5,_⟩:=oK H hd e3;obtain⟨hg,e5⟩:=bW e4;have P5:=Aa hg;subst P5;have hmin:Nat.min n n=n:=Hm n
 have fin:∀{o:Q}{off b N:Nat},J o=some (b,N)->ev tmps ds x=.slice (some ⟨b,off,none⟩) n cap->Hv o off cs h (λh'=>k (.int .i64 (.ofNat n)) h' nx)=.ok r ->
   ∃v h' nx',k v h' nx'=.ok r/\WG P w0 w J tmps ds ⟨dst,.call ⟨.builtin .copy,#[x,y],ts⟩,ty,pos,AH,A8⟩ h nx v h' nx':=λ{o off b N} hb hv hw=>by
  obtain⟨h',Vs,T,f1,f2,f3,f4,f5⟩:=ou H hb g2 g3 hw;have A7:=b9 (P:=P) (T:=T) us off 0 w Vs f2 (g2.oneC g3) (by simpa using f3);rw[Bk] at A7;refine⟨_,_,_,f1,_,J,.int .i64 n,.inl ?_,.int _ _,f4,f5,Ae _⟩
  have AZ:(Builtin.copy_ ts ty #[ev tmps ds x,ev tmps ds y]).run P w=.ok (.int .i64 n) (w.putObj b (.cells ⟨overwrite Vs off us⟩ T (0,0))):=by
   rw[hv];generalize hgy:ev tmps ds y=uy at g4 g5;have h0:(#[Value.slice (some ⟨b,off,none⟩) n cap,uy]:Array Value)[0]?=some (.slice (some ⟨b,off,none⟩) n cap):=rfl;have QP:(#[Value.slice (some ⟨b,off,none⟩) n cap,uy]:Array Value)[1]?=some uy:=rfl;simp only[Builtin.copy_,Sem.run_bind,EI,h0,QP,run_underlying he,Result.andThen_ok,Sem.run_pure,g4,hmin,run_sizeOf hs,g5 w rfl,A7];rfl
  simp[execOp,resolve,invoke,builtin];simp[ev] at AZ;simp[AZ]
 cases c<;>simp only at e5<;>first|cases e5|skip
 ·obtain⟨b,N,Nd,hx,hb,_⟩:=hc.inv_sl (.inl ⟨_,rfl⟩)
  rw[hv] at hx;simp at hx;exact fin hb (by rw[hv];simp[hx]) e5
 ·obtain⟨b,N,Nd,hx,hb,_⟩:=hc.inv_sl (.inr ⟨_,rfl⟩)
  rw[hv] at hx;simp at hx;exact fin hb (by rw[hv];simp[hx]) e5
theorem aS0(H:HR P w0 J h nx w){s d e:TypeId}{x:Operand}(hs:P.underlying s=some .string)(hd:P.underlying d=some (.slice e))(he:P.underlying e=some (.int .u8))(hT:XR J tm tmps (Op.operands (.convert s d x)).toList)(e':wK (.sb (aE P x)) tm h nx k=.ok r) :
  ∃v h' nx',k v h' nx'=.ok r/\WG P w0 w J tmps ds ⟨dst,.convert s d x,ty,pos,AH,A8⟩ h nx v h' nx':=by
 simp only[wK] at e';obtain⟨c,e1,hc⟩:=opd (ds:=ds) (o:=⟨dst,.convert s d x,ty,pos,AH,A8⟩) H hT (by simp[Op.operands]) e';obtain⟨l,n,hn,e2⟩:=qP e1;subst hn;obtain⟨sl,hv,hl,hp⟩:=hc.inv_str;obtain⟨cs,e3,g2,g3⟩:=xo (J:=J) hl hp e2;rw[dT,cM,eD] at e3;have AZ:=run_bytes_of_string (P:=P) w s d e ⟨⟨sl⟩⟩ hs hd he;have BG:(⟨⟨sl⟩⟩:ByteArray).size=l:=hl;rw[BG] at AZ;generalize GG:grownCap w l 0 e=cap at AZ;have I3:l<=cap:=by rw[<-GG];exact grownCap_ge _ _ _ _
 have KV:(bytesRow ⟨⟨sl⟩⟩ cap).toList.length=cap:=by simp[bytesRow,BG];omega
 have Hd:HR P w0 J h nx w.drew:=H.drawn _;have B5:cs.length=l:=by rw[g2.1];simp[j8,hl]
 have hq:=H.fresh nx (Ae _)
 obtain⟨f1,f2⟩:=Hd.make (x:=.cells (bytesRow ⟨⟨sl⟩⟩ cap) e ((bytesRow ⟨⟨sl⟩⟩ cap).size,(bytesRow ⟨⟨sl⟩⟩ cap).size+1)) (N:=cap) (ob:=.ro l (dP cs 0 .nil)) (by
  refine .ro _ _ _ _ (bytesRow ⟨⟨sl⟩⟩ cap).toList _ _ (AM.heap_alloc_new (w:=w.drew) _) (by rw[KV];exact I3) (λi u hi hu=>?_) λi hi=>?_
  ·rw[TL.puts cs .nil i cs[i] (by simp[B5,hi])]
   refine(g2.mono (Rho.set_le hq)).2 i _ u (by simp[B5,hi]) ?_;have EJ:i<sl.length:=by omega
   have h2:=bytesRow_at ⟨⟨sl⟩⟩ cap i (by simpa using EJ);rw[Bq,h2] at hu;simp at hu;subst hu;simp[j8,EJ]
  ·rw[TL.puts cs .nil i cs[i] (by simp[B5,hi])]
   exact g3 _ (El _))
 refine⟨_,_,_,e3,_,_,.slice (some ⟨w.heap.size,0,none⟩) l cap,.inl ?_,.su _ _ _ _ _ _ _ Rho.set_same I3 (by omega),f1,f2,by rw[Q.nat_succ];omega⟩;simp[execOp,hv,AZ]
theorem aFN:∀{cs:List V}{us:List Value}{k:Nat->AA},VRs J cs us->Ol cs k=.ok r->∃s:List UInt8,us=j8 s/\k (packL s)=.ok r
 |[],us,k,hv,e=>⟨[],hv.inv_nil,e⟩
 |c::cs,us,k,hv,e=>by
  obtain⟨u,Oa,rfl,h1,h2⟩:=hv.inv_cons;simp only[Ol] at e
  split at e
  ·rename_i c'
   obtain⟨hg,e1⟩:=bW e;obtain⟨s,g1,g2⟩:=aFN h2 e1;rw[aH] at g2;have AR:=dH hg;refine⟨UInt8.ofNat c'::s,?_,?_⟩
   ·rw[h1.inv_int,g1]
    simp[j8];omega
   ·simp only[packL]
    have:(UInt8.ofNat c').toNat=c':=by simp;omega
    rw[this];exact g2
  ·cases e
theorem aCb{b n:Nat}{Vs:List Value}{T:TypeId}(hw:w.heap[b]?=some (.cells ⟨Vs⟩ T (0,0)))(hn:n≠0):w.freeze ⟨b,0,none⟩ n=w.putObj b (.cells ⟨Vs⟩ T (0,n)):=by
 unfold World.freeze World.putObj;rw[Ax hn];congr 1;apply Eh;intro j;rw[Da];by_cases hj:b=j
 ·subst hj
  obtain⟨hb,he⟩:=Ad.1 hw;simp[hb,he]
 ·simp[hj,Bt hj]
theorem aS2(H:HR P w0 J h nx w){x y:Operand}{pt it e:TypeId}{a:Array Operand}{ts:Array TypeId}(ha:a.toList=[x,y])(EI:ts.toList=[pt,it])(hp:P.underlying pt=some (.pointer e))(NQ:P.cellsOf e=1)
  (hT:XR J tm tmps (Op.operands (.call ⟨.builtin .unsafeString,a,ts⟩)).toList) (e':wK (.us e (aE P x) (aE P y)) tm h nx k=.ok r) :
  ∃v h' nx',k v h' nx'=.ok r/\WG P w0 w J tmps ds ⟨dst,.call ⟨.builtin .unsafeString,a,ts⟩,ty,pos,AH,A8⟩ h nx v h' nx':=by
 obtain⟨a⟩:=a;obtain⟨ts⟩:=ts;simp only at ha EI;subst ha;subst EI;simp only[wK] at e';obtain⟨c,e1,hc⟩:=opd (ds:=ds) (o:=⟨dst,.call ⟨.builtin .unsafeString,#[x,y],#[pt,it]⟩,ty,pos,AH,A8⟩) H hT (by simp[Op.operands,Call.operands]) e';obtain⟨d,e2,hd⟩:=opd (ds:=ds) (o:=⟨dst,.call ⟨.builtin .unsafeString,#[x,y],#[pt,it]⟩,ty,pos,AH,A8⟩) H hT (by simp[Op.operands,Call.operands]) e1
 have hex:∀u w',(Builtin.unsafeString_ #[pt,it] ty #[ev tmps ds x,ev tmps ds y]).run P w=.ok u w'->(execOp (ev tmps ds) ⟨dst,.call ⟨.builtin .unsafeString,#[x,y],#[pt,it]⟩,ty,pos,AH,A8⟩).run P w=.ok (.value u) w':=λu w' hu=>by
  simp[execOp,resolve,invoke,builtin];simp[ev] at hu;simp[hu]
 split at e2
 ·rename_i l
  have hy:ev tmps ds y=.int .i64 (l:Int):=hd.inv_int;cases c<;>simp only at e2<;>first|cases e2|skip
  ·obtain⟨hg,e3⟩:=bW e2
   have h0:=Aa hg;subst h0;have hx:ev tmps ds x=.pointer none:=by generalize ev tmps ds x=u at hc;cases hc;rfl
   refine⟨_,_,_,e3,w,J,.string ⟨⟨[]⟩⟩,.inl (hex _ _ ?_),.str _ _ [] rfl rfl,H,Keep.refl _ _ _,Ae _⟩;rw[hx,hy]
   have:Builtin.unsafeString_ #[pt,it] ty #[.pointer none,.int .i64 (0:Nat)] =
    (do
     let n <-asInt (.int .i64 (0:Nat))
     if n<0 then runtimePanic (.error "unsafe.String: len out of range")
     if n>IntKind.i64.max then unsupported (.unsafePointer "String: a length above the largest int")
     if n=0 then pure (.string .empty) else runtimePanic (.error "unsafe.String: ptr is nil and len is not zero")):=rfl
   rw[this];simp[asInt,asIntOf];rfl
  ·obtain⟨hg,e3⟩:=bW e2
   rw[bV] at e3;simp only[Ac] at hg;obtain⟨⟨q1,q2⟩,q3⟩:=hg;have q1:=dH q1;have q2:=Aa q2;have q3:=Ah q3;subst q2;obtain⟨b,N,hx,hb⟩:=hc.inv_ptr
   split at e3
   ·rename_i o m t BT B6 E5 ex BP
    obtain⟨DX,e4⟩:=bW e3;rw[Ac] at DX;have q4:=Ah DX.1;have q5:=Aa DX.2;rw[rQ] at e4;obtain⟨us,c1,c2,c3,c4⟩:=H.cells (off:=0) (m:=l) hb (.inl ⟨BT,B6,E5,ex,BP⟩) (by omega);obtain⟨s,s1,s2⟩:=aFN c3 e4;rw[cM] at s2;have hO:=H.obj _ b N hb;rw[BP] at hO;cases hO with
    |row _ _ _ _ _ _ _ _ Vs hB hw hN hn =>
    have DU:s.length=l:=by rw[<-c1,s1];simp[j8]
    obtain⟨f1,f2,_⟩:=H.toRo (us:=[]) (fz:=(0,l)) hb BP hw (.inr rfl);have ME:overwrite Vs m []=Vs:=by simp[overwrite]
    rw[ME,<-aCb hw (by omega)] at f1;refine⟨_,_,_,s2,_,J,.string ⟨⟨s⟩⟩,.inl (hex _ _ ?_),.str _ _ s DU rfl,f1,f2,Ae _⟩;rw[hx,hy,<-DU];refine Lib.run_unsafeString_row w pt it ty e hp NQ b Vs.length (by simp[World.shape?,hw,q5]) s (by intro h0;subst h0;simp at DU;omega) (by omega) (by omega) λj y hj=>?_
    rw[cF];refine c2 j _ ?_;rw[s1];simp[j8,hj]
   ·cases e3
 ·cases e2
end
section
open Go.AM (bA bO aU aT)
variable {P:Program}{w0 w:World}{J:Rho}{h:T O}{nx:Q}{tm:T V}{tmps:Array Value}{ds:List Deferred}{r v:V}
theorem nf{o:Option WB}{b:WB}(hb:KC o=.w b):o=some b:=by
 cases o with
 |none=>cases hb
 |some p=>simp only[KC] at hb;cases hb;rfl
theorem qD{o:Option PB}{b:WB}(hb:H7 o=.w b):False:=by cases o<;>cases hb
theorem UR{o:Option AB}{b:WB}(hb:KD o=.w b):False:=by cases o<;>cases hb
theorem aLV{t:TypeId}(h:∃u:Unit,(match P.underlying t with|some (.slice _)=>some ()|some .string=>some ()|_=>none)=some u):∃d,P.underlying t=some d/\∀k,d≠.int k:=by
 obtain⟨u,h⟩:=h
 split at h
 ·rename_i hu;exact⟨_,hu,λk e=>by cases e⟩
 ·rename_i hu;exact⟨_,hu,λk e=>by cases e⟩
 ·cases h
theorem aNb(H:HR P w0 J h nx w){o:Oper}{b:WB}{k:V->T O->Q->AA}(hb:bY P o=.w b)(hT:XR J tm tmps o.op.operands.toList)(e:wK b tm h nx k=.ok r) :
  ∃v h' nx',k v h' nx'=.ok r/\WG P w0 w J tmps ds o h nx v h' nx':=by
 obtain⟨dst,op,ty,pos,AH,A8⟩:=o;cases op<;>simp only[bY] at hb
 case store t a x =>
  obtain⟨s,hs,hb⟩:=k7 (nf hb);subst hb;exact aS1 H hs hT e
 case mapUpdate t m key x =>
  split at hb
  ·rename_i s el ht
   cases hb;exact aPS H (.inl rfl) ht hT e
  ·cases hb
 case insert t m key x =>
  split at hb
  ·rename_i s el ht
   cases hb;exact aPS H (.inr rfl) ht hT e
  ·cases hb
 case mapEntry t m key =>
  split at hb
  ·rename_i s el ht
   obtain⟨z,hz,hb⟩:=k7 (nf hb);subst hb;exact aSZ H ht hz hT e
  ·cases hb
 case entryStore t m s x=>cases hb;exact aSY H hT e
 case convert s d x =>
  split at hb
  ·cases hb
  ·cases hb
  ·cases hb
  ·split at hb<;>cases hb
  ·split at hb
   ·split at hb<;>cases hb
   ·cases hb
  ·rename_i hs hd
   split at hb
   ·rename_i he
    cases hb;exact aS0 H hs hd he hT e
   ·cases hb
  ·cases hb
 case call c =>
  obtain⟨Nf,a,ts⟩:=c;cases Nf<;>simp only[gZ] at hb
  ·cases hb
  ·cases hb
  ·split at hb
   ·rename_i ha EI
    obtain⟨el,GD,hb⟩:=dC (nf hb);obtain⟨u,hu,hb⟩:=dC hb;obtain⟨s,hs,hb⟩:=dC hb;obtain⟨z,hz,hb⟩:=dC hb
    split at hb
    ·rename_i hg
     simp at hb;subst hb;simp only[Ac] at hg;exact aSW H ha EI (jX GD) (aLV ⟨u,hu⟩) hs hz (dH hg.1.1) (Ah hg.1.2) (dH hg.2) hT e
    ·cases hb
   ·split at hb<;>cases hb
   ·rename_i ha EI
    obtain⟨el,GD,hb⟩:=dC (nf hb);obtain⟨el2,_,hb⟩:=dC hb;obtain⟨s,hs,hb⟩:=k7 hb;subst hb;exact aSX H ha (by rw[<-Bq,EI];rfl) (jX GD) hs hT e
   ·cases hb
   ·rename_i ha EI
    split at hb
    ·rename_i hp
     split at hb
     ·rename_i hc
      cases hb;exact aS2 H ha EI hp (Aa hc) hT e
     ·cases hb
    ·cases hb
   ·cases hb
   ·cases hb
   ·cases hb
 case defer c =>
  split at hb
  ·cases hb
  ·split at hb
   ·split at hb<;>cases hb
   ·cases hb
  ·cases hb
 case alloc t=>exact(UR hb).elim
 case box t x=>exact(UR hb).elim
 case buildSlice t len parts=>exact(UR hb).elim
 case makeMap t r'=>split at hb<;>cases hb
 case makeSlice t l c=>exact(UR hb).elim
 case binOp op t x y yt=>cases hb
 case build t parts=>exact(qD hb).elim
 case load t a=>exact(qD hb).elim
 case unOp op t x=>cases op<;>cases hb
 case makeInterface t x=>split at hb<;>cases hb
 case makeFunc fn first caps=>split at hb<;>cases hb
 case slice t x lo hi mx =>
  split at hb
  ·cases hb
  ·split at hb
   ·cases hb
   ·exact(qD hb).elim
  ·cases hb
 case fieldAddr t x f=>exact(qD hb).elim
 case field t x f=>exact(qD hb).elim
 case indexAddr t x i =>
  split at hb
  ·exact(qD hb).elim
  ·exact(qD hb).elim
  ·cases hb
 case index t x i =>
  split at hb
  ·cases hb
  ·exact(qD hb).elim
  ·cases hb
 case lookup t m key ok =>
  split at hb
  ·exact(qD hb).elim
  ·cases hb
 case typeAssert x xt t HM=>exact(qD hb).elim
 all_goals cases hb
theorem aEi:∀{a b:V},Sp a b=true->a=b:=by
 intro a b e;cases a<;>cases b<;>simp only[Sp,Ac,Dq,Bc] at e
 all_goals first
  |rfl
  |(subst e;rfl)
  |(obtain⟨e1,e2⟩:=e;have h1:=wP e1;rw[tM] at e2;simp at e2;subst h1;subst e2;rfl)
  |(obtain⟨e1,e2⟩:=e;have h1:=Aa e1;have h2:=Aa e2;subst h1;subst h2;rfl)
  |(obtain⟨e1,e2⟩:=e;have h1:=Q.beq_iff.1 e1;have h2:=Aa e2;subst h1;subst h2;rfl)
  |(obtain⟨⟨⟨e1,e2⟩,e3⟩,e4⟩:=e;have h1:=Q.beq_iff.1 e1;have h2:=Aa e2;have h3:=Aa e3;have h4:=Aa e4;subst h1;subst h2;subst h3;subst h4;rfl)
  |(have h1:=Q.beq_iff.1 e;subst h1;rfl)
  |cases e
theorem yD:∀{l m:List V},Nb l m=true->l=m
 |[],[],_=>rfl
 |[],_::_,e=>by cases e
 |_::_,[],e=>by cases e
 |a::l,b::m,e=>by
  simp only[Nb] at e
  split at e
  ·rename_i h1
   rw[aEi h1,yD e]
  ·cases e
theorem aLg{a b:V}(e:MW a b=true):a=b:=by
 cases a<;>simp only[MW] at e
 case agg l=>cases b<;>simp only[Bc] at e;rw[yD e]
 case tup l=>cases b<;>simp only[Bc] at e;rw[yD e]
 case fn f l l' =>
  cases b<;>simp only[Bc] at e
  simp only[Ac] at e;rw[Q.beq_iff.1 e.1,yD e.2.1,yD e.2.2]
 all_goals exact aEi e
end
end Go.CM
end
