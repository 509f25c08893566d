import Derived.Test.YtoiocfngjchdiaaGreatDoorC01
import Derived.Test.YtoiocfngjchdiaaGreatDoorA03
import Derived.LaidEqlPtr
set_option linter.all false
noncomputable section
namespace Go.CM
section
open Go.AM (hV overwrite run_underlying run_sizeOf dG aS aU aW bP)
variable {P:Program}{w0:cL}{w:World}{J:ak}{h:T O}{nx:Q}
theorem oA(l:Nat):pL l=256^l:=by
 unfold pL;rw[show Nat.pow 2 (8*l)=2^(8*l) from rfl,Nat.pow_mul]
theorem a1T:∀s:List UInt8,cC s<256^s.length
 |[]=>by simp[cC]
 |b::s=>by
  have h1:=a1T s;have h2:b.toNat < 256:=b.toNat_lt;simp only[cC,Ak,Gr];omega
theorem lR:∀a b:List UInt8,cC (a++b)=cC a+cC b*256^a.length
 |[],b=>by simp[cC]
 |x::a,b=>by
  simp only[Cw,cC,lR a b,Ak,Gr,Nat.mul_add];rw[De,Nat.mul_left_comm 256 (cC b),Fp 256 (256^a.length)]
theorem uB:∀{a b:List UInt8},a.length=b.length->cC a=cC b->a=b
 |[],[],_,_=>rfl
 |[],_::_,h,_=>by simp at h
 |_::_,[],h,_=>by simp at h
 |x::a,y::b,h,e=>by
  simp only[cC] at e;have h1:x.toNat < 256:=x.toNat_lt;have h2:y.toNat < 256:=y.toNat_lt;have h3:x.toNat=y.toNat:=by omega
  have h4:=uB (a:=a) (b:=b) (by simpa using h) (by omega);rw[Fy.1 h3,h4]
theorem sJ(s:List UInt8)(k:Nat)(hk:k<=s.length):cC (s.take k)=cC s%256^k/\cC (s.drop k)=cC s/256^k:=by
 have h1:=lR (s.take k) (s.drop k);rw[List.take_append_drop,Dz,Nat.min_eq_left hk] at h1;have h2:=a1T (s.take k);rw[Dz,Nat.min_eq_left hk] at h2;have hp:0<256^k:=Nat.pow_pos (by omega);rw[h1];constructor
 ·rw[Nat.add_mul_mod_self_right,Fq h2]
 ·rw[Nat.add_mul_div_right _ _ hp,Nat.div_eq_of_lt h2,Bs]
theorem aBy(s:List UInt8)(j:Nat)(hj:j<s.length):cC s/256^j%256=(s[j]).toNat:=by
 have h1:=(sJ s j (by omega)).2;rw[Dy hj] at h1;rw[<-h1];simp only[cC];have h2:(s[j]).toNat < 256:=(s[j]).toNat_lt;omega
theorem aFF(k:IntKind)(m:Nat)(hm:m<=M3 k):k.wrap (.ofNat m)=.ofNat m:=by
 cases k<;>simp only[M3] at hm<;>simp[IntKind.wrap,IntKind.bits,IntKind.signed]<;>omega
theorem rK{k:IntKind}{n:Int}{kn:Int->aa}{r:V}(e:iV k n kn=.ok r):kn (k.wrap n)=.ok r:=by
 cases n with
 |ofNat m =>
  simp only[iV,aF] at e
  split at e
  ·rename_i hb
   rw[aFF k m (Ad hb)];exact e
  ·rw[fS] at e;exact e
 |negSucc m=>simp only[iV,aF,fS] at e;exact e
theorem aFU(x y:Int):Se x y=x+y:=by
 unfold Se;split<;>rfl
theorem aHn(x y:Int):Vl x y=x*y:=by
 unfold Vl;split<;>rfl
theorem aIp(x y:Int):Nz x y=x-y:=by
 unfold Nz;split
 ·rename_i a b
  split
  ·rename_i hb
   have:=Ad hb
   simp only[Dn];omega
  ·rename_i hb
   have:¬b<=a:=λh=>by rw[Ah h] at hb;cases hb
   simp only[Dn];omega
 ·rfl
theorem wV(x y:Int):LB x y=decide (x<=y):=by
 unfold LB;split
 ·rename_i a b
  rw[Dv,Nat.ble_eq,Cj];simp only[Dn];omega
 ·rename_i a b;rw[eq_comm,decide_eq_false_iff_not];simp only[Dn];omega
 ·rename_i a b;rw[eq_comm,Cj];simp only[Dn];omega
 ·rename_i a b
  rw[Dv,Nat.ble_eq,Cj];omega
theorem rX(x y:Int):L3 x y=(x==y):=by
 unfold L3;split
 ·rename_i a b;rw[Dv,Gj,Cb];simp only[Dn];omega
 ·rename_i a b;rw[Dv,Gj,Cb];omega
 ·rename_i h1 h2
  rw[eq_comm,beq_eq_false_iff_ne];intro e;subst e;cases x with
  |ofNat a=>exact h1 a a rfl rfl
  |negSucc a=>exact h2 a a rfl rfl
theorem mI{b:Bool}{k:V->aa}{r:V}(e:bK b k=.ok r):k (.bool b)=.ok r:=by cases b<;>exact e
theorem uU{k k':IntKind}(e:Nat.beq (Jo k) (Jo k')=true):k=k':=by
 cases k<;>cases k'<;>first|rfl|(exact absurd e (by decide))
theorem aF8{op:BinOp}{kd:IntKind}{x y:Int}{k:V->aa}{r:V}{t:TypeId}{ox oy:Operand}(e:qA op kd x y k=.ok r) :
  ∃c u,k c=.ok r/\(eqGuard op t ox oy (.int kd x) (.int kd y)).run P w=.ok () w/\(binOp op t (.int kd x) (.int kd y)).run P w=.ok u w/\VR J c u:=by
 have hg:(eqGuard op t ox oy (.int kd x) (.int kd y)).run P w=.ok () w:=by rw[eqGuard_at_int];rfl
 cases op<;>simp only[qA] at e<;>first|cases e|skip
 case add =>
  have e:=rK e;rw[aFU] at e;exact⟨_,.int kd (kd.wrap (x+y)),e,hg,by simp[binOp,Op.intArith],.int _ _⟩
 case sub =>
  have e:=rK e;rw[aIp] at e;exact⟨_,.int kd (kd.wrap (x-y)),e,hg,by simp[binOp,Op.intArith],.int _ _⟩
 case mul =>
  have e:=rK e;rw[aHn] at e;exact⟨_,.int kd (kd.wrap (x*y)),e,hg,by simp[binOp,Op.intArith],.int _ _⟩
 case rem =>
  obtain⟨h1,h2⟩:=bQ e;rw[fS] at h2;rw[rX] at h1;have h0:¬y=0:=by simpa using h1
  exact⟨_,.int kd (x.tmod y),h2,hg,by simp[binOp,Op.intDiv,h0],.int _ _⟩
 case eql =>
  have e:=mI e;rw[rX] at e;exact⟨_,.bool (x==y),e,hg,by simp[binOp,Op.intCmp],.bool _⟩
 case neq =>
  have e:=mI e;rw[rX] at e;exact⟨_,.bool (!(x==y)),e,hg,by simp[binOp,Op.intCmp,bne],.bool _⟩
 case lss =>
  have e:=mI e;rw[wV,show(!decide (y<=x))=decide (x<y) by rw[Dv];simp] at e;exact⟨_,.bool (decide (x<y)),e,hg,by simp[binOp,Op.intCmp],.bool _⟩
 case leq =>
  have e:=mI e;rw[wV] at e;exact⟨_,.bool (decide (x<=y)),e,hg,by simp[binOp,Op.intCmp],.bool _⟩
 case gtr =>
  have e:=mI e;rw[wV,show(!decide (x<=y))=decide (x>y) by rw[Dv];simp] at e;exact⟨_,.bool (decide (x>y)),e,hg,by simp[binOp,Op.intCmp],.bool _⟩
 case geq =>
  have e:=mI e;rw[wV] at e;exact⟨_,.bool (decide (x>=y)),e,hg,by simp[binOp,Op.intCmp],.bool _⟩
theorem vc{s s':List UInt8}:(Nat.beq s.length s'.length&&Nat.beq (cC s) (cC s'))=(s==s'):=by
 rw[Dv,Ac,Gj,Gj,Cb];exact⟨λ⟨a,b⟩=>uB a b,λe=>by subst e;exact⟨rfl,rfl⟩⟩
theorem aGa{op:BinOp}{s s':List UInt8}{k:V->aa}{r:V}{t:TypeId}{ox oy:Operand}(e:OJ op s.length (cC s) s'.length (cC s') k=.ok r) :
  ∃c u,k c=.ok r/\(eqGuard op t ox oy (.string ⟨⟨s⟩⟩) (.string ⟨⟨s'⟩⟩)).run P w=.ok () w/\(binOp op t (.string ⟨⟨s⟩⟩) (.string ⟨⟨s'⟩⟩)).run P w=.ok u w/\VR J c u:=by
 have hg:(eqGuard op t ox oy (.string ⟨⟨s⟩⟩) (.string ⟨⟨s'⟩⟩)).run P w=.ok () w:=by rw[eqGuard_at_string];rfl
 cases op<;>simp only[OJ] at e<;>first|cases e|skip
 case add =>
  obtain⟨h1,h2⟩:=bQ e;rw[aF,aF] at h2;have hle:=Ad h1
  have a4U:¬((s.length:Int)+(s'.length:Int)>IntKind.i64.max):=by
   rw[show IntKind.i64.max=9223372036854775807 by decide];omega
  refine⟨_,.string ⟨⟨s++s'⟩⟩,h2,hg,?_,.str _ _ _ (by simp) (by rw[lR,oA])⟩;have h3:((⟨⟨s⟩⟩:ByteArray).size:Int)+((⟨⟨s'⟩⟩:ByteArray).size:Int)=(s.length:Int)+(s'.length:Int):=rfl
  have h4:(⟨⟨s⟩⟩:ByteArray)++⟨⟨s'⟩⟩=⟨⟨s++s'⟩⟩:=by
   apply ByteArray.ext;simp
  simp only[binOp,Op.stringOp];rw[Bf (by simpa[h3] using a4U),h4];rfl
 case eql =>
  have e:=mI e;rw[vc] at e;exact⟨_,.bool (s==s'),e,hg,by simp[binOp,Op.stringOp,ByteArray.toList_eq],.bool _⟩
 case neq =>
  have e:=mI e;rw[vc] at e;exact⟨_,.bool (!(s==s')),e,hg,by simp[binOp,Op.stringOp,ByteArray.toList_eq],.bool _⟩
theorem aF9{op:BinOp}{a b:V}{k:V->aa}{r:V}{t:TypeId}{ox oy:Operand}{va vb:Value}(ha:VR J a va)(hb:VR J b vb)(e:ry op a b k=.ok r) :
  ∃c u,k c=.ok r/\(eqGuard op t ox oy va vb).run P w=.ok () w/\(binOp op t va vb).run P w=.ok u w/\VR J c u:=by
 cases a<;>simp only[ry] at e<;>first|cases e|skip
 ·rename_i kd x
  cases b<;>simp only at e<;>first|cases e|skip
  obtain⟨h1,h2⟩:=bQ e;obtain rfl:=uU h1;rw[ha.kj,hb.kj];exact aF8 h2
 ·cases b<;>simp only at e<;>first|cases e|skip
  obtain⟨s,rfl,rfl,rfl⟩:=ha.l_;obtain⟨s',rfl,rfl,rfl⟩:=hb.l_;exact aGa e
end
section
open Go.AM (hV overwrite run_underlying run_sizeOf dG aS aU aW bC aQ AD DR bP cH)
variable {P:Program}{w0:cL}{w:World}{J:ak}{h:T O}{nx:Q}{tm:T V}{tmps:Array Value}{ds:List Deferred}{k:V->aa}{r v:V}
variable {dst:Option Nat}{ty:TypeId}{pos:String}{AK:Array Edge}{BE:Option (Nat×Bool)}
def PG(P:Program)(w:World)(J:ak)(tmps:Array Value)(ds:List Deferred)(o:Oper)(v:V):Prop:=∃u,(execOp (ev tmps ds) o).run P w=.ok (.value u) w/\VR J v u
theorem XR.of{xs:List Operand}{ys:Array Operand}(hT:XR J tm tmps ys.toList)(hs:∀x∈xs,x∈ys.toList):XR J tm tmps xs:=λt ht=>hT t (hs _ ht)
theorem bd(H:HR P w0 J h nx w){o:Oper}(hT:XR J tm tmps o.op.operands.toList){x:Operand}(hx:x∈o.op.operands.toList){k:V->aa}(e:xK (aE P x) tm k=.ok r) :
  ∃c,k c=.ok r/\VR J c (ev tmps ds x):=by
 obtain⟨c,h1,h2⟩:=fJ e;exact⟨c,h2,iT H.jt (hT.sub (by simpa using hx)) h1⟩
theorem aOO(H:HR P w0 J h nx w){x:Operand}(hT:XR J tm tmps (Op.operands (.move x)).toList)(e:pK (.mv (aE P x)) tm h k=.ok r):∃v,k v=.ok r/\PG P w J tmps ds ⟨dst,.move x,ty,pos,AK,BE⟩ v:=by
 obtain⟨c,e,hc⟩:=bd (ds:=ds) (o:=⟨dst,.move x,ty,pos,AK,BE⟩) H hT (by simp[Op.operands]) e;exact⟨c,e,_,by simp[execOp],hc⟩
theorem aEG(H:HR P w0 J h nx w){x:Operand}(hT:XR J tm tmps (Op.operands (.assign x)).toList)(e:pK (.mv (aE P x)) tm h k=.ok r):∃v,k v=.ok r/\PG P w J tmps ds ⟨dst,.assign x,ty,pos,AK,BE⟩ v:=by
 obtain⟨c,e,hc⟩:=bd (ds:=ds) (o:=⟨dst,.assign x,ty,pos,AK,BE⟩) H hT (by simp[Op.operands]) e;exact⟨c,e,_,by simp[execOp],hc⟩
theorem aOP(H:HR P w0 J h nx w){c a b:Operand}(hT:XR J tm tmps (Op.operands (.pick c a b)).toList)(e:pK (.pick (aE P c) (aE P a) (aE P b)) tm h k=.ok r) :
  ∃v,k v=.ok r/\PG P w J tmps ds ⟨dst,.pick c a b,ty,pos,AK,BE⟩ v:=by
 have Ng:=hT;simp only[pK] at e;obtain⟨x,e,hx⟩:=bd (ds:=ds) (o:=⟨dst,.pick c a b,ty,pos,AK,BE⟩) H hT (by simp[Op.operands]) e;obtain⟨t,rfl,e⟩:=vD e;have HB:=hx.od;cases t with
 |true =>
  obtain⟨y,e,hy⟩:=bd (ds:=ds) (o:=⟨dst,.pick c a b,ty,pos,AK,BE⟩) H hT (by simp[Op.operands]) e;exact⟨y,e,_,by simp[execOp,HB,Go.asBool],hy⟩
 |false =>
  obtain⟨y,e,hy⟩:=bd (ds:=ds) (o:=⟨dst,.pick c a b,ty,pos,AK,BE⟩) H hT (by simp[Op.operands]) e;exact⟨y,e,_,by simp[execOp,HB,Go.asBool],hy⟩
theorem wY{o:O}(e:wX o=true):∃n t B4 CJ ty ex,o=.row n t B4 CJ ty ex:=by
 cases o<;>first|exact⟨_,_,_,_,_,_,rfl⟩|cases e
theorem yq(H:HR P w0 J h nx w){o o':Q}{off DN b b' N N':Nat}{k:Bool->aa}(h1:J o=some (b,N))(h2:J o'=some (b',N'))(e:JA h o off o' DN k=.ok r) :
  ∃t,k t=.ok r/\(t=true->b=b'/\off=DN)/\(t=false->(⟨b,off,none⟩:Addr)≠⟨b',DN,none⟩/\(∃ca ta,w.heap[b]?=some (.cells ca ta (0,0)))/\∃ca ta,w.heap[b']?=some (.cells ca ta (0,0))):=by
 have row:∀{q:Q}{b N:Nat},J q=some (b,N)->wX (h.ob q)=true->∃ca ta,w.heap[b]?=some (.cells ca ta (0,0)):=λ{q b N} hq hl=>by
  obtain⟨n,t,B4,CJ,ty,ex,ho⟩:=wY hl
  have:=H.obj q b N hq
  rw[ho] at this;cases this with|row _ _ _ _ _ _ _ _ vs hb hw=>exact⟨_,_,hw⟩
 unfold JA at e
 split at e
 ·rename_i hb
  obtain rfl:=Q.beq_iff.1 hb;rw[h1] at h2;obtain⟨rfl,rfl⟩:b=b'/\N=N':=by simpa using h2
  split at e
  ·rename_i ho
   exact⟨true,e,λ_=>⟨rfl,Aa ho⟩,(λh=>by cases h)⟩
  ·rename_i ho
   rw[bW] at e;obtain⟨hg,e⟩:=bQ e;refine⟨false,e,(λh=>by cases h),λ_=>⟨λhe=>?_,row h1 hg,row h1 hg⟩⟩;simp at he;subst he;rw[Ci] at ho;cases ho
 ·rename_i hb
  rw[bW,bW] at e;obtain⟨hg,e⟩:=bQ e;rw[Ac] at hg;refine⟨false,e,(λh=>by cases h),λ_=>⟨λhe=>?_,row h1 hg.1,row h2 hg.2⟩⟩;simp at he;obtain⟨rfl,_⟩:=he;have BA:o≠o':=λe=>by rw[Q.beq_iff.2 e] at hb;cases hb
  have hs:=H.sep o o' b N N' BA h1 h2;obtain⟨n,t,B4,CJ,ty,ex,ho⟩:=wY hg.1;obtain⟨n',t',L6,LY,HY,ex',FM⟩:=wY hg.2;rw[ho,FM] at hs;simp[Sh] at hs
def XF(P:Program)(t:TypeId):oz->Operand->Prop
 |.ptr,_=>∃e j,P.underlying t=some (.pointer e)/\P.info? e=some j/\j.size≠0
 |.bool,_=>P.underlying t=some .bool
 |.ly,y=>y=.const (.slice none 0 0)/\∃e,P.underlying t=some (.slice e)
 |.px,y=>y=.const (.map none)/\∃a b,P.underlying t=some (.map a b)
 |.pn,y=>y=.const .nilFunc/\∃a b c,P.underlying t=some (.func a b c)
 |.pp,y=>y=.const .nilIface/\∃m,P.underlying t=some (.interface m)
theorem yo(H:HR P w0 J h nx w){m:oz}{a b:V}{k:Bool->aa}{t:TypeId}{x y:Operand}{u u':Value}(ht:XF P t m y)(ha:VR J a u)(hb:VR J b u')(hy:∀c,y=.const c->u'=c)(e:Gv m h a b k=.ok r) :
  ∃z,k z=.ok r/\(∀op,(eqGuard op t x y u u').run P w=.ok () w)/\(binOp .eql t u u').run P w=.ok (.bool z) w/\(binOp .neq t u u').run P w=.ok (.bool (!z)) w:=by
 have neq:∀{u u':Value}{z:Bool},(∀n,(Op.equalIn (n+1) t u u').run P w=.ok z w)->(binOp .eql t u u'=do pure (.bool (<-Op.equal t u u')))->(binOp .neq t u u'=do pure (.bool (!(<-Op.equal t u u')))) ->
   (binOp .eql t u u').run P w=.ok (.bool z) w/\(binOp .neq t u u').run P w=.ok (.bool (!z)) w:=λ{u u' z} h1 h2 h3=>by
  have h4:(Op.equal t u u').run P w=.ok z w:=h1 9999;rw[h2,h3];constructor
  ·simp[h4]
  ·simp[h4]
 cases m with
 |ptr =>
  obtain⟨el,j,hu,hi,hs⟩:=ht;simp only[Gv] at e;cases a<;>simp only at e<;>first|cases e|skip
  ·cases ha
   cases b<;>simp only at e<;>first|cases e|skip
   ·cases hb
    exact⟨true,e,λop=>by rw[eqGuard_at_pointer];rfl,neq (λn=>by simp[Op.equalIn,run_underlying hu]) rfl rfl⟩
   ·obtain⟨bb,N,rfl,h1⟩:=hb.ns
    exact⟨false,e,λop=>by rw[eqGuard_at_pointer];rfl,neq (λn=>by simp[Op.equalIn,run_underlying hu]) rfl rfl⟩
  ·obtain⟨b1,N1,rfl,h1⟩:=ha.ns
   cases b<;>simp only at e<;>first|cases e|skip
   ·cases hb
    exact⟨false,e,λop=>by rw[eqGuard_at_pointer];rfl,neq (λn=>by simp[Op.equalIn,run_underlying hu]) rfl rfl⟩
   ·obtain⟨b2,N2,rfl,h2⟩:=hb.ns
    obtain⟨z,e,Ik,Ij⟩:=yq H h1 h2 e;refine⟨z,e,λop=>by rw[eqGuard_at_pointer];rfl,?_⟩;cases z with
    |true =>
     obtain⟨rfl,rfl⟩:=Ik rfl;exact neq (λn=>by simp[Op.equalIn,run_underlying hu,sizeOf,typeInfo,hi,run_sameAddr_same]) rfl rfl
    |false =>
     obtain⟨g1,⟨ca,ta,g2⟩,a5r,tb,g3⟩:=Ij rfl;exact neq (λn=>by simp[Op.equalIn,run_underlying hu,sizeOf,typeInfo,hi,hs,run_sameAddr_other w g1 g2 g3]) rfl rfl
 |bool =>
  simp only[Gv] at e;obtain⟨p,hp,e1⟩:=vD e;obtain⟨q,hq,e2⟩:=vD e1;subst hp;subst hq;rw[ha.od,hb.od];have hu:P.underlying t=some .bool:=ht;exact⟨p==q,e2,λop=>by rw[eqGuard_at_bool];rfl,neq (λn=>by simp[Op.equalIn,run_underlying hu]) rfl rfl⟩
 |ly =>
  simp only[Gv] at e;obtain⟨rfl,el,hu⟩:=ht;obtain rfl:=hy _ rfl;cases ha<;>simp only at e<;>first|cases e|skip
  all_goals exact⟨_,e,λop=>by rw[eqGuard_at_slice];rfl,neq (λn=>by simp[Op.equalIn,run_underlying hu]) rfl rfl⟩
 |px =>
  simp only[Gv] at e;obtain⟨rfl,a',b',hu⟩:=ht;obtain rfl:=hy _ rfl;cases ha<;>simp only at e<;>first|cases e|skip
  all_goals exact⟨_,e,λop=>by cases op<;>rfl,neq (λn=>by simp[Op.equalIn,run_underlying hu]) rfl rfl⟩
 |pn =>
  simp only[Gv] at e;obtain⟨rfl,a',b',c',hu⟩:=ht;obtain rfl:=hy _ rfl;cases ha<;>simp only at e<;>first|cases e|skip
  all_goals exact⟨_,e,λop=>by cases op<;>rfl,neq (λn=>by simp[Op.equalIn,run_underlying hu]) rfl rfl⟩
 |pp =>
  simp only[Gv] at e;obtain⟨rfl,m',hu⟩:=ht;obtain rfl:=hy _ rfl;cases ha<;>simp only at e<;>first|cases e|skip
  ·exact⟨_,e,λop=>by rw[eqGuard_nil_constR];rfl,neq (λn=>by simp[Op.equalIn,run_underlying hu]) rfl rfl⟩
  ·exact⟨_,e,λop=>by rw[eqGuard_at_iface];rfl,neq (λn=>by simp[Op.equalIn,run_underlying hu]) rfl rfl⟩
end
section
open Go.AM (hV overwrite run_underlying run_sizeOf dG aS aU aW bC aQ AD DR bP cH bytes_beq)
variable {P:Program}{w0:cL}{w:World}{J:ak}{h:T O}{nx:Q}{tm:T V}{tmps:Array Value}{ds:List Deferred}{k:V->aa}{r v:V}
variable {dst:Option Nat}{ty:TypeId}{pos:String}{AK:Array Edge}{BE:Option (Nat×Bool)}
theorem dR{a b:Nat}(h:Nat.blt a b=true):a<b:=by simpa[Cy] using h
theorem dQ{α β:Type}{o:Option α}{f:α->Option β}{b:β}(h:o.bind f=some b):∃a,o=some a/\f a=some b:=by
 cases o with
 |none=>cases h
 |some a=>exact⟨a,rfl,h⟩
theorem mY{α β:Type}{o:Option α}{f:α->β}{b:β}(h:o.map f=some b):∃a,o=some a/\f a=b:=by
 cases o with
 |none=>cases h
 |some a=>exact⟨a,rfl,by simpa using h⟩
theorem aOQ(H:HR P w0 J h nx w){t:TypeId}{x:Operand}(hT:XR J tm tmps (Op.operands (.unOp .not t x)).toList)(e:pK (.not (aE P x)) tm h k=.ok r) :
  ∃v,k v=.ok r/\PG P w J tmps ds ⟨dst,.unOp .not t x,ty,pos,AK,BE⟩ v:=by
 simp only[pK] at e;obtain⟨c,e1,hc⟩:=bd (ds:=ds) (o:=⟨dst,.unOp .not t x,ty,pos,AK,BE⟩) H hT (by simp[Op.operands]) e;obtain⟨b,hb,e2⟩:=vD e1;subst hb;exact⟨_,mI e2,_,by simp[execOp,hc.od,Op.unary],.bool _⟩
theorem aS1(H:HR P w0 J h nx w){s d:TypeId}{x:Operand}{ks kd:IntKind}(hs:P.underlying s=some (.int ks))(hd:P.underlying d=some (.int kd))(hT:XR J tm tmps (Op.operands (.convert s d x)).toList)(e:pK (.cvi kd (aE P x)) tm h k=.ok r) :
  ∃v,k v=.ok r/\PG P w J tmps ds ⟨dst,.convert s d x,ty,pos,AK,BE⟩ v:=by
 simp only[pK] at e;obtain⟨c,e1,hc⟩:=bd (ds:=ds) (o:=⟨dst,.convert s d x,ty,pos,AK,BE⟩) H hT (by simp[Op.operands]) e;obtain⟨k1,n,hn,e2⟩:=rh e1;subst hn;exact⟨_,rK e2,_,by simp[execOp,hc.kj,convert,run_underlying hs,run_underlying hd,Conv.intToInt],.int _ _⟩
theorem a69{op:BinOp}{t:TypeId}{x y:Operand}{b:PB}(hb:dh P op t x y=b) :
  b=.bad\/b=.bin op (aE P x) (aE P y)\/∃m,XF P t m y/\((op=.eql/\b=.eq false m (aE P x) (aE P y))\/(op=.neq/\b=.eq true m (aE P x) (aE P y))):=by
 have main:∀(neg:Bool)(b:PB),(match P.underlying t with
   |some (.pointer e)=>(match aU P e with
    |some s=>(match Nat.blt 0 s with
     |true=>PB.eq neg .ptr (aE P x) (aE P y)
     |false=>.bad)
    |none=>.bad)
   |some .bool=>.eq neg .bool (aE P x) (aE P y)
   |some (.int _)=>.bin op (aE P x) (aE P y)
   |some .string=>.bin op (aE P x) (aE P y)
   |some (.slice _)=>(match iQ .ly y with|true=>.eq neg .ly (aE P x) (aE P y)|false=>.bad)
   |some (.map _ _)=>(match iQ .px y with|true=>.eq neg .px (aE P x) (aE P y)|false=>.bad)
   |some (.func _ _ _)=>(match iQ .pn y with|true=>.eq neg .pn (aE P x) (aE P y)|false=>.bad)
   |some (.interface _)=>(match iQ .pp y with|true=>.eq neg .pp (aE P x) (aE P y)|false=>.bad)
   |_=>.bad)=b->b=.bad\/b=.bin op (aE P x) (aE P y)\/∃m,XF P t m y/\b=.eq neg m (aE P x) (aE P y):=λneg b hb=>by
  split at hb
  ·rename_i e hu
   split at hb
   ·rename_i s hs
    split at hb
    ·rename_i h0
     obtain⟨j,hj,rfl⟩:=mY hs;exact .inr (.inr ⟨.ptr,⟨e,j,hu,hj,by have:=dR h0;omega⟩,hb.symm⟩)
    ·exact .inl hb.symm
   ·exact .inl hb.symm
  ·exact .inr (.inr ⟨.bool,by assumption,hb.symm⟩)
  ·exact .inr (.inl hb.symm)
  ·exact .inr (.inl hb.symm)
  ·rename_i hu
   split at hb
   ·rename_i hn
    refine .inr (.inr ⟨.ly,⟨?_,_,hu⟩,hb.symm⟩);unfold iQ at hn
    split at hn<;>first|rfl|(cases hn;done)|simp at hn
   ·exact .inl hb.symm
  ·rename_i hu
   split at hb
   ·rename_i hn
    refine .inr (.inr ⟨.px,⟨?_,_,_,hu⟩,hb.symm⟩);unfold iQ at hn
    split at hn<;>first|rfl|(cases hn;done)|simp at hn
   ·exact .inl hb.symm
  ·rename_i hu
   split at hb
   ·rename_i hn
    refine .inr (.inr ⟨.pn,⟨?_,_,_,_,hu⟩,hb.symm⟩);unfold iQ at hn
    split at hn<;>first|rfl|(cases hn;done)|simp at hn
   ·exact .inl hb.symm
  ·rename_i hu
   split at hb
   ·rename_i hn
    refine .inr (.inr ⟨.pp,⟨?_,_,hu⟩,hb.symm⟩);unfold iQ at hn
    split at hn<;>first|rfl|(cases hn;done)|simp at hn
   ·exact .inl hb.symm
  ·exact .inl hb.symm
 cases op
 case eql =>
  rcases main false b hb with h|h|⟨m,h1,h2⟩
  ·exact .inl h
  ·exact .inr (.inl h)
  ·exact .inr (.inr ⟨m,h1,.inl ⟨rfl,h2⟩⟩)
 case neq =>
  rcases main true b hb with h|h|⟨m,h1,h2⟩
  ·exact .inl h
  ·exact .inr (.inl h)
  ·exact .inr (.inr ⟨m,h1,.inr ⟨rfl,h2⟩⟩)
 all_goals exact .inr (.inl hb.symm)
theorem aH2(H:HR P w0 J h nx w){op:BinOp}{t yt:TypeId}{x y:Operand}(hT:XR J tm tmps (Op.operands (.binOp op t x y yt)).toList)(e:pK (dh P op t x y) tm h k=.ok r) :
  ∃v,k v=.ok r/\PG P w J tmps ds ⟨dst,.binOp op t x y yt,ty,pos,AK,BE⟩ v:=by
 have fin:∀v u,k v=.ok r->(eqGuard op t x y (ev tmps ds x) (ev tmps ds y)).run P w=.ok () w->(binOp op t (ev tmps ds x) (ev tmps ds y)).run P w=.ok u w->VR J v u ->
   ∃v,k v=.ok r/\PG P w J tmps ds ⟨dst,.binOp op t x y yt,ty,pos,AK,BE⟩ v:=λv u h0 h1 h2 h3=>⟨v,h0,u,by simp[execOp,h1,h2],h3⟩
 rcases a69 (P:=P) (op:=op) (t:=t) (x:=x) (y:=y) rfl with hb|hb|⟨m,ht,hb⟩
 ·rw[hb] at e;cases e
 ·rw[hb] at e
  simp only[pK] at e;obtain⟨a,e1,ha⟩:=bd (ds:=ds) (o:=⟨dst,.binOp op t x y yt,ty,pos,AK,BE⟩) H hT (by simp[Op.operands]) e;obtain⟨b,e2,hb⟩:=bd (ds:=ds) (o:=⟨dst,.binOp op t x y yt,ty,pos,AK,BE⟩) H hT (by simp[Op.operands]) e1;obtain⟨c,u,g1,g2,g3,g4⟩:=aF9 (P:=P) (w:=w) (J:=J) (t:=t) (ox:=x) (oy:=y) ha hb e2;exact fin c u g1 g2 g3 g4
 ·have Hr:∀c,y=.const c->ev tmps ds y=c:=λc hc=>by subst hc;rfl
  rcases hb with⟨rfl,hb⟩|⟨rfl,hb⟩<;>rw[hb] at e<;>simp only[pK] at e
  ·obtain⟨a,e1,ha⟩:=bd (ds:=ds) (o:=⟨dst,.binOp .eql t x y yt,ty,pos,AK,BE⟩) H hT (by simp[Op.operands]) e
   obtain⟨b,e2,hb⟩:=bd (ds:=ds) (o:=⟨dst,.binOp .eql t x y yt,ty,pos,AK,BE⟩) H hT (by simp[Op.operands]) e1;obtain⟨z,e3,g1,g2,g3⟩:=yo (x:=x) H ht ha hb Hr e2;exact fin _ _ (mI e3) (g1 _) g2 (by cases z<;>exact .bool _)
  ·obtain⟨a,e1,ha⟩:=bd (ds:=ds) (o:=⟨dst,.binOp .neq t x y yt,ty,pos,AK,BE⟩) H hT (by simp[Op.operands]) e
   obtain⟨b,e2,hb⟩:=bd (ds:=ds) (o:=⟨dst,.binOp .neq t x y yt,ty,pos,AK,BE⟩) H hT (by simp[Op.operands]) e1;obtain⟨z,e3,g1,g2,g3⟩:=yo (x:=x) H ht ha hb Hr e2;exact fin _ _ (mI e3) (g1 _) g3 (by cases z<;>exact .bool _)
theorem zm{o:Q}{off:Nat}(e:Jn h o off k=.ok r):∃n t,((∃B4 CJ ty ex,h.ob o=.row n t B4 CJ ty ex)\/h.ob o=.ro n t)/\off<n/\k (t.at off)=.ok r:=by
 unfold Jn at e;rw[bW] at e;obtain⟨n,t,h1,e1⟩:=xJ e;obtain⟨h2,e2⟩:=bQ e1;rw[kF,dI] at e2;exact⟨n,t,h1,dR h2,e2⟩
theorem ek{o:Q}{off m:Nat}{k:List V->aa}(e:mW h o off m k=.ok r):∃n t,((∃B4 CJ ty ex,h.ob o=.row n t B4 CJ ty ex)\/h.ob o=.ro n t)/\off+m<=n/\k (jN m off t)=.ok r:=by
 unfold mW at e;rw[bW] at e;obtain⟨n,t,h1,e1⟩:=xJ e;obtain⟨h2,e2⟩:=bQ e1;rw[mT] at e2;exact⟨n,t,h1,Ad h2,e2⟩
theorem zM{o:O}{k:Nat->T V->aa}(e:NW o k=.ok r):∃n t,o=.rb n t/\k n t=.ok r:=by
 cases o<;>first|exact⟨_,_,rfl,e⟩|cases e
theorem pU{v:V}{k:Q->Nat->aa}{kr:RK->aa}(e:vG v k kr=.ok r):(∃o off,v=.ptr o off/\k o off=.ok r)\/∃x,v=.rr x/\kr x=.ok r:=by
 cases v<;>first|exact .inl ⟨_,_,rfl,e⟩|exact .inr ⟨_,rfl,e⟩|cases e
theorem VR.vJ{o:Q}{off:Nat}{u:Value}(h:VR J (.rr (.ptr o off)) u):∃b B,u=.pointer (some ⟨b,B+off,none⟩)/\J o=some (b,B):=by cases h;exact⟨_,_,rfl,by assumption⟩
theorem aNr{x:RK}(e:Li h x k=.ok r):∃o off n t,x=.ptr o off/\h.ob o=.rb n t/\off<n/\k (t.at off)=.ok r:=by
 cases x<;>simp only[Li] at e<;>first|cases e|skip
 rw[bW] at e;obtain⟨n,t,h1,e1⟩:=zM e;obtain⟨h2,e2⟩:=bQ e1;rw[kF,dI] at e2;exact⟨_,_,n,t,rfl,h1,dR h2,e2⟩
theorem a3z{o:Q}{off m:Nat}{k:List V->aa}(e:eo h o off m k=.ok r):∃n t,h.ob o=.rb n t/\off+m<=n/\k (jN m off t)=.ok r:=by
 unfold eo at e;rw[bW] at e;obtain⟨n,t,h1,e1⟩:=zM e;obtain⟨h2,e2⟩:=bQ e1;rw[mT] at e2;exact⟨n,t,h1,Ad h2,e2⟩
theorem a_.agg{cs:List V}{vs:List Value}(h:a_ J cs vs)(hk:∀c∈cs,ci c=true):VR J (.agg cs) (.agg ⟨vs⟩):=.agg cs vs h.1 hk h.2
theorem aS5(H:HR P w0 J h nx w){t:TypeId}{a:Operand}(ht:aW P t=some false)(hT:XR J tm tmps (Op.operands (.load t a)).toList)(e:pK (.ld1 (aE P a)) tm h k=.ok r) :
  ∃v,k v=.ok r/\PG P w J tmps ds ⟨dst,.load t a,ty,pos,AK,BE⟩ v:=by
 simp only[pK] at e;obtain⟨c,e1,hc⟩:=bd (ds:=ds) (o:=⟨dst,.load t a,ty,pos,AK,BE⟩) H hT (by simp[Op.operands]) e;rcases pU e1 with⟨o,off,ho,e2⟩|⟨x,ho,e2⟩
 ·subst ho
  obtain⟨b,N,hv,hb⟩:=hc.ns;obtain⟨n,tt,h1,h2,e3⟩:=zm e2;obtain⟨u,g1,g2,_⟩:=H.cell hb h1 h2;exact⟨_,e3,u,by simp[execOp,hv,Instr.loadAt,Instr.sureAddr,AM.u_ ht g1],g2⟩
 ·subst ho
  obtain⟨o,off,n,tt,rfl,h1,h2,e3⟩:=aNr e2;obtain⟨b,N,hv,hb⟩:=hc.vJ;obtain⟨u,g1,g2,_⟩:=H.a2l hb h1 h2;exact⟨_,e3,u,by simp[execOp,hv,Instr.loadAt,Instr.sureAddr,AM.u_ ht g1],g2⟩
theorem aS6(H:HR P w0 J h nx w){t:TypeId}{n:Nat}{a:Operand}(ht:aW P t=some true)(hs:aU P t=some n)(hT:XR J tm tmps (Op.operands (.load t a)).toList)(e:pK (.ldn n (aE P a)) tm h k=.ok r) :
  ∃v,k v=.ok r/\PG P w J tmps ds ⟨dst,.load t a,ty,pos,AK,BE⟩ v:=by
 simp only[pK] at e;obtain⟨c,e1,hc⟩:=bd (ds:=ds) (o:=⟨dst,.load t a,ty,pos,AK,BE⟩) H hT (by simp[Op.operands]) e;rcases pU e1 with⟨o,off,ho,e2⟩|⟨x,ho,e2⟩
 ·subst ho
  obtain⟨b,N,hv,hb⟩:=hc.ns;obtain⟨m,tt,h1,h2,e3⟩:=ek e2;obtain⟨vs,g1,g2,g3,g4⟩:=H.cells hb h1 h2;exact⟨_,e3,.agg ⟨vs⟩,by simp[execOp,hv,Instr.loadAt,Instr.sureAddr,AM.v5 (P:=P) ht (by rw[g1];exact hs) g2],g3.agg g4⟩
 ·subst ho
  cases x<;>simp only[tv] at e2<;>first|cases e2|skip
  rename_i o off;obtain⟨b,N,hv,hb⟩:=hc.vJ;obtain⟨m,tt,h1,h2,e3⟩:=a3z e2;obtain⟨vs,g1,g2,g3,g4⟩:=H.a2m hb h1 h2;exact⟨_,e3,.agg ⟨vs⟩,by simp[execOp,hv,Instr.loadAt,Instr.sureAddr,AM.v5 (P:=P) (o:=N+off) ht (by rw[g1];exact hs) (λj v hj=>by rw[De];exact g2 j v hj)],g3.agg g4⟩
theorem aTa(H:HR P w0 J h nx w){x:Operand}(hT:XR J tm tmps (Op.operands (.nilCheck x)).toList)(e:pK (.nck (aE P x)) tm h k=.ok r) :
  ∃v,k v=.ok r/\PG P w J tmps ds ⟨dst,.nilCheck x,ty,pos,AK,BE⟩ v:=by
 simp only[pK] at e;obtain⟨c,e1,hc⟩:=bd (ds:=ds) (o:=⟨dst,.nilCheck x,ty,pos,AK,BE⟩) H hT (by simp[Op.operands]) e;have C6:=hc;generalize hg:ev tmps ds x=u at hc C6;cases c<;>simp only at e1<;>first|cases e1|skip
 ·obtain⟨b,N,rfl,hb⟩:=hc.ns
  exact⟨_,e1,_,by simp[execOp,hg],C6⟩
 ·obtain⟨us,vs,rfl,_⟩:=hc.uu
  exact⟨_,e1,_,by simp[execOp,hg],C6⟩
 ·obtain⟨b,N,rfl,hb⟩:=hc.a0W
  exact⟨_,e1,_,by simp[execOp,hg],C6⟩
 ·cases hc with
  |kh t x v hv=>exact⟨_,e1,_,by simp[execOp,hg],C6⟩
 ·rename_i x
  cases x<;>simp only[SV] at e1<;>first|cases e1|skip
  obtain⟨b,N,rfl,hb⟩:=hc.vJ;exact⟨_,e1,_,by simp[execOp,hg],C6⟩
theorem aWS(H:HR P w0 J h nx w){t:TypeId}{x:Operand}{f s:Nat}{ot:Nat×TypeId}(hf:AD P t f=some ot)(hs:aU P ot.2=some s)(h0:Nat.blt 0 s=true)(hT:XR J tm tmps (Op.operands (.fieldAddr t x f)).toList)
  (e:pK (.fa ot.1 (aE P x)) tm h k=.ok r):∃v,k v=.ok r/\PG P w J tmps ds ⟨dst,.fieldAddr t x f,ty,pos,AK,BE⟩ v:=by
 simp only[pK] at e;obtain⟨c,e1,hc⟩:=bd (ds:=ds) (o:=⟨dst,.fieldAddr t x f,ty,pos,AK,BE⟩) H hT (by simp[Op.operands]) e;obtain⟨fs,fl,h1,h2,h3,h4⟩:=DR hf;have G4:¬s=0:=by have:=dR h0;omega
 rcases pU e1 with⟨o,a,ho,e2⟩|⟨x,ho,e2⟩
 case inr =>
  subst ho;cases x<;>simp only[Nl] at e2<;>first|cases e2|skip
  rename_i o a;rw[aF] at e2;obtain⟨b,N,hv,hb⟩:=hc.vJ;exact⟨_,e2,.pointer (some ⟨b,N+(a+ot.1),none⟩),by simp[execOp,hv,Instr.fieldAt,run_underlying h1,h2,Instr.sureAddr,fieldPlace,h4,run_sizeOf hs,G4,cH,h3,De],.tK _ _ _ _ hb⟩
 subst ho;rw[aF] at e2;obtain⟨b,N,hv,hb⟩:=hc.ns;exact⟨_,e2,.pointer (some ⟨b,a+ot.1,none⟩),by simp[execOp,hv,Instr.fieldAt,run_underlying h1,h2,Instr.sureAddr,fieldPlace,h4,run_sizeOf hs,G4,cH,h3],.ptr _ _ _ _ hb⟩
theorem a2a:∀{n:Nat}{l:List V}{k:List V->aa},oW n l k=.ok r->n<=l.length/\k (l.take n)=.ok r
 |0,l,k,e=>⟨Dr _,by simpa[oW] using e⟩
 |n+1,[],k,e=>by cases e
 |n+1,v::l,k,e=>by
  obtain⟨h1,h2⟩:=a2a (n:=n) (l:=l) e;exact⟨by simp;omega,by simpa using h2⟩
theorem a1X:∀{off n:Nat}{l:List V}{k:List V->aa},uA off n l k=.ok r->off+n<=l.length/\k ((l.drop off).take n)=.ok r
 |0,n,l,k,e=>by
  obtain⟨h1,h2⟩:=a2a (n:=n) (l:=l) e;exact⟨by omega,by simpa using h2⟩
 |off+1,n,[],k,e=>by cases e
 |off+1,n,v::l,k,e=>by
  obtain⟨h1,h2⟩:=a1X (off:=off) (n:=n) (l:=l) e;exact⟨by simp;omega,by simpa using h2⟩
theorem qU{t:TypeId}{cs:List V}{vs:List Value}{off s:Nat}{agg:Bool}(hv:a_ J cs vs)(hk:∀c∈cs,ci c=true)(h1:aW P t=some agg)(h2:aU P t=some s)(e:NJ agg off s cs k=.ok r) :
  ∃c u,k c=.ok r/\(part t ⟨vs⟩ off).run P w=.ok u w/\VR J c u:=by
 cases agg with
 |false =>
  obtain⟨c,g1,g2⟩:=a31 (l:=cs) (n:=off) e;obtain⟨u,g3,g4⟩:=hv.get g1;have hi:off<vs.length:=(Ab.1 g3).1;have he:vs[off]=u:=(Ab.1 g3).2;exact⟨c,u,g2,by simp[part,dG h1,hi,he],g4⟩
 |true =>
  obtain⟨g1,g2⟩:=a1X (off:=off) (n:=s) (l:=cs) e;refine⟨_,.agg ⟨(vs.drop off).take s⟩,g2,?_,((hv.drop off).take s).agg λc hc=>hk c (List.mem_of_mem_drop (List.mem_of_mem_take hc))⟩;have hle:off+s<=vs.length:=by rw[<-hv.1];exact g1
  simp[part,dG h1,run_sizeOf h2,List.extract_eq_take_drop,hle]
theorem aWT(H:HR P w0 J h nx w){t:TypeId}{x:Operand}{f s:Nat}{g:Bool}{ot:Nat×TypeId}(hf:AD P t f=some ot)(hs:aU P ot.2=some s)(ha:aW P ot.2=some g)(hT:XR J tm tmps (Op.operands (.field t x f)).toList)
  (e:pK (.fd g ot.1 s (aE P x)) tm h k=.ok r):∃v,k v=.ok r/\PG P w J tmps ds ⟨dst,.field t x f,ty,pos,AK,BE⟩ v:=by
 simp only[pK] at e;obtain⟨c,e1,hc⟩:=bd (ds:=ds) (o:=⟨dst,.field t x f,ty,pos,AK,BE⟩) H hT (by simp[Op.operands]) e;obtain⟨l,hl,e2⟩:=yk e1;subst hl;obtain⟨vs,hv,HE,hk⟩:=hc.qh;obtain⟨fs,fl,h1,h2,h3,h4⟩:=DR hf;obtain⟨c',u,g1,g2,g3⟩:=qU (P:=P) (w:=w) HE hk ha hs e2;exact⟨c',g1,u,by simp[execOp,hv,Instr.field,run_underlying h1,h2,asAgg,h4,h3,g2],g3⟩
theorem aWR(H:HR P w0 J h nx w){x:Operand}{i:Nat}(hT:XR J tm tmps (Op.operands (.extract x i)).toList)(e:pK (.ex i (aE P x)) tm h k=.ok r) :
  ∃v,k v=.ok r/\PG P w J tmps ds ⟨dst,.extract x i,ty,pos,AK,BE⟩ v:=by
 simp only[pK] at e;obtain⟨c,e1,hc⟩:=bd (ds:=ds) (o:=⟨dst,.extract x i,ty,pos,AK,BE⟩) H hT (by simp[Op.operands]) e;generalize hg:ev tmps ds x=u at hc;cases c<;>simp only at e1<;>first|cases e1|skip
 obtain⟨vs,rfl,HE⟩:=hc.xj;obtain⟨c',g1,g2⟩:=a31 e1;obtain⟨u,g3,g4⟩:=HE.get g1;have hi:i<vs.length:=(Ab.1 g3).1;have he:vs[i]=u:=(Ab.1 g3).2;exact⟨c',g2,u,by simp[execOp,hg,Instr.extract,hi,he],g4⟩
theorem aCZ{sz i:Nat}{v:V}{u:Value}(hv:VR J v u)(e:v7 sz v i k=.ok r):∃b off len cap c,u=.slice (some ⟨b,off,none⟩) len cap/\i<len/\k c=.ok r/\VR J c (.pointer (some ⟨b,off+i*sz,none⟩)):=by
 cases v<;>simp only[v7] at e<;>first|cases e|skip
 ·obtain⟨h1,e1⟩:=bQ e
  rw[aF] at e1;cases hv with|sl _ _ _ _ b N h hc=>exact⟨_,_,_,_,_,rfl,dR h1,e1,.ptr _ _ _ _ h⟩
 ·obtain⟨h1,e1⟩:=bQ e
  rw[aF] at e1;cases hv with|su _ _ _ _ b N cap h hc hr=>exact⟨_,_,_,_,_,rfl,dR h1,e1,.ptr _ _ _ _ h⟩
 ·rename_i x
  cases x<;>simp only[xz] at e<;>first|cases e|skip
  obtain⟨h1,e1⟩:=bQ e;rw[aF] at e1;cases hv with|og _ _ _ b B cap h hc=>exact⟨_,_,_,_,_,rfl,dR h1,e1,by rw[De];exact .tK _ _ _ _ h⟩
theorem aWU(H:HR P w0 J h nx w){t el:TypeId}{x i:Operand}{s:Nat}(hu:P.underlying t=some (.slice el))(hs:aU P el=some s)(hT:XR J tm tmps (Op.operands (.indexAddr t x i)).toList)(e:pK (.ia s (aE P x) (aE P i)) tm h k=.ok r) :
  ∃v,k v=.ok r/\PG P w J tmps ds ⟨dst,.indexAddr t x i,ty,pos,AK,BE⟩ v:=by
 simp only[pK] at e;obtain⟨c,e1,hc⟩:=bd (ds:=ds) (o:=⟨dst,.indexAddr t x i,ty,pos,AK,BE⟩) H hT (by simp[Op.operands]) e;obtain⟨d,e2,hd⟩:=bd (ds:=ds) (o:=⟨dst,.indexAddr t x i,ty,pos,AK,BE⟩) H hT (by simp[Op.operands]) e1;obtain⟨kd,n,hn,e3⟩:=rQ e2;subst hn;obtain⟨b,off,len,cap,c2,hv,h2,e4,h5⟩:=aCZ hc e3;have hi:=hd.kj;refine⟨_,e4,.pointer (some ⟨b,off+n*s,none⟩),?_,h5⟩;simp[execOp,hv,hi,Instr.indexAt,asIntOf,run_underlying hu,h2,run_sizeOf hs,cH]
theorem aS2(H:HR P w0 J h nx w){t el:TypeId}{x i:Operand}{len s:Nat}(hu:P.underlying t=some (.array len el))(hs:aU P el=some s)(hT:XR J tm tmps (Op.operands (.indexAddr t x i)).toList)(e:pK (.iaa len s (aE P x) (aE P i)) tm h k=.ok r) :
  ∃v,k v=.ok r/\PG P w J tmps ds ⟨dst,.indexAddr t x i,ty,pos,AK,BE⟩ v:=by
 simp only[pK] at e;obtain⟨c,e1,hc⟩:=bd (ds:=ds) (o:=⟨dst,.indexAddr t x i,ty,pos,AK,BE⟩) H hT (by simp[Op.operands]) e;obtain⟨d,e2,hd⟩:=bd (ds:=ds) (o:=⟨dst,.indexAddr t x i,ty,pos,AK,BE⟩) H hT (by simp[Op.operands]) e1;obtain⟨kd,n,hn,e3⟩:=rQ e2;subst hn;obtain⟨o,a,ho,e4⟩:=bw e3;subst ho;obtain⟨h1,e5⟩:=bQ e4;rw[aF] at e5;have h2:=dR h1;obtain⟨b,N,hv,hb⟩:=hc.ns;have hi:=hd.kj;refine⟨_,e5,.pointer (some ⟨b,a+n*s,none⟩),?_,.ptr _ _ _ _ hb⟩;simp[execOp,hv,hi,Instr.indexAt,asIntOf,run_underlying hu,Instr.sureAddr,h2,run_sizeOf hs,cH]
theorem aS4(H:HR P w0 J h nx w){t:TypeId}{x i:Operand}(hu:P.underlying t=some .string)(hT:XR J tm tmps (Op.operands (.index t x i)).toList)(e:pK (.ixs (aE P x) (aE P i)) tm h k=.ok r) :
  ∃v,k v=.ok r/\PG P w J tmps ds ⟨dst,.index t x i,ty,pos,AK,BE⟩ v:=by
 simp only[pK] at e;obtain⟨c,e1,hc⟩:=bd (ds:=ds) (o:=⟨dst,.index t x i,ty,pos,AK,BE⟩) H hT (by simp[Op.operands]) e;obtain⟨d,e2,hd⟩:=bd (ds:=ds) (o:=⟨dst,.index t x i,ty,pos,AK,BE⟩) H hT (by simp[Op.operands]) e1;obtain⟨kd,j,hn,e3⟩:=rQ e2;subst hn;obtain⟨l,n,ho,e4⟩:=rR e3;subst ho;obtain⟨h1,e5⟩:=bQ e4;rw[aF] at e5;have h2:=dR h1;obtain⟨s,hv,hl,hp⟩:=hc.l_;have hi:=hd.kj;subst hl;rw[<-hp,oA,aBy s j h2] at e5
 have MH:(⟨⟨s⟩⟩:ByteArray)[j]?=some s[j]:=by
  have BD:j<(⟨⟨s⟩⟩:ByteArray).size:=h2;rw[ByteArray.getElem?_lt' _ _ BD];rfl
 exact⟨_,e5,.int .u8 (s[j].toNat),by simp[execOp,hv,hi,Instr.index,asIntOf,run_underlying hu,MH],.int _ _⟩
theorem aS3(H:HR P w0 J h nx w){t el:TypeId}{x i:Operand}{len s:Nat}{g:Bool}(hu:P.underlying t=some (.array len el))(hs:aU P el=some s)(ha:aW P el=some g)(hT:XR J tm tmps (Op.operands (.index t x i)).toList)
  (e:pK (.ixa g len s (aE P x) (aE P i)) tm h k=.ok r):∃v,k v=.ok r/\PG P w J tmps ds ⟨dst,.index t x i,ty,pos,AK,BE⟩ v:=by
 simp only[pK] at e;obtain⟨c,e1,hc⟩:=bd (ds:=ds) (o:=⟨dst,.index t x i,ty,pos,AK,BE⟩) H hT (by simp[Op.operands]) e;obtain⟨d,e2,hd⟩:=bd (ds:=ds) (o:=⟨dst,.index t x i,ty,pos,AK,BE⟩) H hT (by simp[Op.operands]) e1;obtain⟨kd,j,hn,e3⟩:=rQ e2;subst hn;obtain⟨l,ho,e4⟩:=yk e3;subst ho;obtain⟨h1,e5⟩:=bQ e4;rw[aF] at e5;have h2:=dR h1;obtain⟨vs,hv,HE,hk⟩:=hc.qh;have hi:=hd.kj;obtain⟨c',u,g1,g2,g3⟩:=qU (P:=P) (w:=w) HE hk ha hs e5;exact⟨c',g1,u,by simp[execOp,hv,hi,Instr.index,asIntOf,run_underlying hu,h2,run_sizeOf hs,g2],g3⟩
end
section
open Go.AM (hV overwrite aX aP run_underlying run_sizeOf dG aS aU aW bC aQ AD DR bP cH bytes_beq mf jM)
variable {P:Program}{w0:cL}{w:World}{J:ak}{h:T O}{nx:Q}{tm:T V}{tmps:Array Value}{ds:List Deferred}{k:V->aa}{r v:V}
variable {dst:Option Nat}{ty:TypeId}{pos:String}{AK:Array Edge}{BE:Option (Nat×Bool)}
theorem aAM{v:Value}(hb:lO (jE v)=true):VC (jE v) (cz (jE v)):=by
 cases v with
 |agg cs =>
  simp only[jE] at hb ⊢;cases he:(cs.toList.map jD).all lO with
  |false=>rw[he] at hb;cases hb
  |true=>exact .inl rfl
 |_ =>
  simp only[jE] at hb ⊢;have hc:=a3J hb;refine .inr ⟨hc,?_⟩
  revert hc
  generalize jD _=c;intro hc;cases c<;>first|rfl|cases hc
theorem yS{t:TypeId}{z:V}(e:zeroV P t=some z):∃zv,(P.info? t).bind (·.zero)=some zv/\VR J z zv/\VC z (cz z):=by
 unfold zeroV at e;obtain⟨zv,h1,h2⟩:=dQ e
 split at h2
 ·rename_i hb
  simp at h2;subst h2;exact⟨zv,h1,jF hb,aAM hb⟩
 ·cases h2
theorem rL{t:TypeId}{z:List V}(e:o5 P t=some z):∃zv,(P.info? t).bind (·.zero)=some zv/\aU P t=some z.length/\a_ J z zv.cells.toList/\(∀c∈z,ci c=true)/\∀u∈zv.cells.toList,hV u=true:=by
 unfold o5 at e;obtain⟨v,h1,h2⟩:=dQ e;obtain⟨s,h3,h4⟩:=dQ h2
 split at h4
 ·rename_i hl
  simp at h4;subst h4;obtain⟨zv,g1,g2,g3⟩:=yS (J:=J) h1;obtain⟨g4,g5,g6⟩:=g2.cells g3;exact⟨zv,g1,by rw[Aa hl];exact h3,g4,g5,g6⟩
 ·cases h4
theorem a_.over{zs cs:List V}{zv cv:List Value}{off:Nat}(h1:a_ J zs zv)(h2:a_ J cs cv):a_ J (overwrite zs off cs) (overwrite zv off cv):=by
 unfold overwrite;rw[h2.1];exact((h1.take off).append h2).append (h1.drop _)
theorem a0k{zs cs:List V}{off:Nat}(h1:∀c∈zs,ci c=true)(h2:∀c∈cs,ci c=true):∀c∈overwrite zs off cs,ci c=true:=λc hc=>by
 unfold overwrite at hc;simp only[Bk] at hc;rcases hc with(hc|hc)|hc
 ·exact h1 c (List.mem_of_mem_take hc)
 ·exact h2 c hc
 ·exact h1 c (List.mem_of_mem_drop hc)
theorem xV:∀{l new:List V}{off:Nat}{k:List V->aa},oU l off new k=.ok r->off+new.length<=l.length/\k (overwrite l off new)=.ok r
 |[],new,off,k,e=>by
  cases off with
  |zero=>cases new with
   |nil=>exact⟨by simp,e⟩
   |cons v vs=>cases e
  |succ off=>cases e
 |x::l,new,off,k,e=>by
  cases off with
  |zero=>cases new with
   |nil=>exact⟨by simp,by simpa[overwrite,oU] using e⟩
   |cons v vs =>
    obtain⟨h1,h2⟩:=xV (l:=l) (new:=vs) (off:=0) e;exact⟨by simp at h1 ⊢;omega,by simpa[overwrite,Nat.add_comm 1] using h2⟩
  |succ off =>
   obtain⟨h1,h2⟩:=xV (l:=l) (new:=new) (off:=off) e;refine⟨by simp;omega,?_⟩
   have:overwrite (x::l) (off+1) new=x::overwrite l off new:=by
    unfold overwrite;rw[show off+1+new.length=off+new.length+1 by omega];simp
   rw[this];exact h2
theorem a25(H:HR P w0 J h nx w){place:Nat->Option (Nat×Nat)}:∀{parts:List (Nat×Operand)}{ps:List (Nat×Nat×X)}{z:List V}{zs:List Value}{k:List V->aa},pJ P place parts=some ps->XR J tm tmps (parts.map (·.2))->a_ J z zs->(∀c∈z,ci c=true) ->
  cr tm ps z k=.ok r->∃cs vs,k cs=.ok r/\Instr.fill place ⟨zs⟩ (parts.map λp=>(p.1,ev tmps ds p.2))=some ⟨vs⟩/\a_ J cs vs/\∀c∈cs,ci c=true
 |[],ps,z,zs,k,hp,hT,hz,hk,e=>by
  simp[pJ] at hp;subst hp;exact⟨z,zs,e,rfl,hz,hk⟩
 |(i,x)::parts,ps,z,zs,k,hp,hT,hz,hk,e=>by
  simp only[pJ] at hp;obtain⟨p,h1,hp⟩:=dQ hp;obtain⟨l,h2,hp⟩:=mY hp;subst hp;simp only[cr] at e;obtain⟨v,h3,e⟩:=fJ e;have hv:=iT (ds:=ds) H.jt (hT.sub (λy hy=>by simp at hy;simp[hy])) h3;obtain⟨c,hc,e⟩:=rV e;rw[cK] at e;obtain⟨hl,e⟩:=bQ e;obtain⟨h4,e⟩:=xV e;obtain⟨g1,g2,g3⟩:=hv.cells hc;obtain⟨cs,vs,f1,f2,f3,f4⟩:=a25 H h2 (hT.sub (λy hy=>by simp at hy ⊢;exact .inr hy)) (hz.over (off:=p.1) g1) (a0k hk g2) e;refine⟨cs,vs,f1,?_,f3,f4⟩
  have BD:(ev tmps ds x).cells.size=p.2:=by
   have:=g1.1
   rw[Aa hl] at this;simpa using this.symm
  have ur:p.1+(ev tmps ds x).cells.size<=zs.length:=by
   rw[<-hz.1,BD,<-Aa hl];exact h4
  simp only[Ba,Instr.fill,h1];rw[Bf (by simp[BD];rw[<-BD];exact ur),jM _ _ _ (by simpa using ur)];exact f2
theorem aS0(H:HR P w0 J h nx w){t:TypeId}{parts:Array (Nat×Operand)}{z:List V}{ps:List (Nat×Nat×X)}(hz:o5 P t=some z)(hp:partsOf P t parts.toList=some ps)(hT:XR J tm tmps (Op.operands (.build t parts)).toList)
  (e:pK (.bld z ps) tm h k=.ok r):∃v,k v=.ok r/\PG P w J tmps ds ⟨dst,.build t parts,ty,pos,AK,BE⟩ v:=by
 simp only[pK] at e;obtain⟨zv,h1,h2,h3,h4,h5⟩:=rL (J:=J) hz;have Ng:XR J tm tmps (parts.toList.map (·.2)):=hT.sub (λx hx=>by simpa[Op.operands] using hx)
 have fin:∀{place:Nat->Option (Nat×Nat)},pJ P place parts.toList=some ps->(∀l,P.built t l=Instr.fill place zv.cells l)->∃v,k v=.ok r/\PG P w J tmps ds ⟨dst,.build t parts,ty,pos,AK,BE⟩ v:=λ{place} N3 hb=>by
  obtain⟨cs,vs,f1,f2,f3,f4⟩:=a25 (ds:=ds) H N3 Ng h3 h4 e;refine⟨_,f1,.agg ⟨vs⟩,?_,f3.agg f4⟩
  have:=run_build (P:=P) w t (parts.map λ(i,x)=>(i,ev tmps ds x)) ⟨vs⟩ (by
   rw[hb];simp only[Fv]
   have:(⟨zv.cells.toList⟩:Array Value)=zv.cells:=by simp
   rw[<-this];exact f2)
  simp[execOp];simp at this;simp[this]
 unfold partsOf at hp
 split at hp
 ·rename_i fs hu
  obtain⟨pl,N3,hp⟩:=dQ hp;refine fin hp λl=>?_
  obtain⟨it,hi,LF⟩:=dQ h1;simp[Program.built,hi,hu,LF,N3]
 ·rename_i n el hu
  obtain⟨s,hs,hp⟩:=dQ hp;refine fin hp λl=>?_
  obtain⟨it,hi,LF⟩:=dQ h1;obtain⟨a6b,K8,hs⟩:=mY hs;simp[Program.built,hi,hu,LF,K8,hs]
 ·cases hp
theorem uY(H:HR P w0 J h nx w){lo:Option Operand}{d:Nat}{k:Nat->aa}(hT:XR J tm tmps lo.toList)(e:xU (lo.map (aE P)) tm d k=.ok r) :
  ∃n,k n=.ok r/\((lo=none/\n=d)\/∃y kd,lo=some y/\ev tmps ds y=.int kd (n:Int)):=by
 cases lo with
 |none=>exact⟨d,e,.inl ⟨rfl,rfl⟩⟩
 |some y =>
  simp only[Bx,xU] at e;obtain⟨c,h1,e⟩:=fJ e;have hc:=iT (ds:=ds) H.jt (hT.sub (by simp)) h1;obtain⟨kd,n,hn,e⟩:=rQ e;subst hn;exact⟨n,e,.inr ⟨y,kd,rfl,hc.kj⟩⟩
theorem jU{isS:Bool}{len cap:Nat}{lo hi:Option Operand}{l m:Nat}(hl:(lo=none/\l=0)\/∃y kd,lo=some y/\ev tmps ds y=.int kd (l:Int))(hh:(hi=none/\m=len)\/∃y kd,hi=some y/\ev tmps ds y=.int kd (m:Int))
  (h1:l<=m) (h2:m<=cap):(Instr.sliceBounds isS len cap (lo.map (ev tmps ds)) (hi.map (ev tmps ds)) none).run P w=.ok (l,m,cap) w:=by
 rcases hl with⟨rfl,rfl⟩|⟨y,kd,rfl,hy⟩<;>rcases hh with⟨rfl,rfl⟩|⟨z,IC,rfl,hz⟩
 ·simp[Instr.sliceBounds]
 ·simp[Instr.sliceBounds,hz,run_sliceBound,h2]
 ·simp[Instr.sliceBounds,hy,run_sliceBound,h1]
 ·simp[Instr.sliceBounds,hy,hz,run_sliceBound,h1,h2]
theorem nJ{len cap:Nat}{lo:Option Operand}{l m x:Nat}{z u:Operand}{kz ku:IntKind}(hl:(lo=none/\l=0)\/∃y kd,lo=some y/\ev tmps ds y=.int kd (l:Int))(hz:ev tmps ds z=.int kz (m:Int))(hu:ev tmps ds u=.int ku (x:Int))
  (h1:l<=m) (h2:m<=x) (h3:x<=cap):(Instr.sliceBounds true len cap (lo.map (ev tmps ds)) (some (ev tmps ds z)) (some (ev tmps ds u))).run P w=.ok (l,m,x) w:=by
 rcases hl with⟨rfl,rfl⟩|⟨y,kd,rfl,hy⟩
 ·simp[Instr.sliceBounds,hz,hu,run_sliceBound,h2,h3]
 ·simp[Instr.sliceBounds,hy,hz,hu,run_sliceBound,h1,h2,h3]
theorem aTc(H:HR P w0 J h nx w){t:TypeId}{x:Operand}{lo hi:Option Operand}(hu:P.underlying t=some .string)(hT:XR J tm tmps (Op.operands (.slice t x lo hi none)).toList)(e:pK (.slS (aE P x) (lo.map (aE P)) (hi.map (aE P))) tm h k=.ok r) :
  ∃v,k v=.ok r/\PG P w J tmps ds ⟨dst,.slice t x lo hi none,ty,pos,AK,BE⟩ v:=by
 simp only[pK] at e;obtain⟨c,e1,hc⟩:=bd (ds:=ds) (o:=⟨dst,.slice t x lo hi none,ty,pos,AK,BE⟩) H hT (by simp[Op.operands]) e;obtain⟨l,n,ho,e2⟩:=rR e1;subst ho;obtain⟨a,e3,ha⟩:=uY (ds:=ds) H (hT.sub (λy hy=>by simp[Op.operands];simp at hy;simp[hy])) e2;obtain⟨b,e4,hb⟩:=uY (ds:=ds) H (hT.sub (λy hy=>by simp[Op.operands];simp at hy;simp[hy])) e3;obtain⟨hg,e5⟩:=bQ e4;rw[aF,aF] at e5;rw[Ac] at hg;have g1:=Ad hg.1;have g2:=Ad hg.2;obtain⟨s,hv,hl,hp⟩:=hc.l_;subst hl;have G9:=jU (P:=P) (w:=w) (isS:=false) (len:=s.length) (cap:=s.length) ha hb g1 g2;have BD:(⟨⟨s⟩⟩:ByteArray).size=s.length:=rfl
 have hex:(⟨⟨s⟩⟩:ByteArray).extract a b=⟨⟨(s.drop a).take (b-a)⟩⟩:=by
  have:=ByteArray.extract_mk s a b
  rw[show(⟨⟨s⟩⟩:ByteArray)=ByteArray.mk s.toArray from rfl,this]
 refine⟨_,e5,.string ⟨⟨(s.drop a).take (b-a)⟩⟩,?_,.str _ _ _ (by simp;omega) ?_⟩
 ·simp only[ev] at G9 hv
  simp[execOp,ev,hv,Instr.sliceAt,Instr.slice,run_underlying hu,BD,G9,hex]
 ·rw[(sJ _ _ (by simp;omega)).1,(sJ _ _ (by omega)).2,oA,oA,hp]
theorem a3b{sz lo hi:Nat}{mx:Option Nat}{v:V}{u:Value}(hv:VR J v u)(e:yZ sz v lo hi mx k=.ok r) :
  ∃c a len cap,k c=.ok r/\u=.slice a len cap/\lo<=hi/\hi<=mx.getD cap/\mx.getD cap<=cap/\VR J c (.slice (if mx.getD cap=lo then a else a.map (·.add (lo*sz))) (hi-lo) (mx.getD cap-lo)):=by
 cases v<;>simp only[yZ] at e<;>first|cases e|skip
 ·obtain⟨hg,e⟩:=bQ e
  cases hv;rw[Ac,Ac] at hg;have h1:=Aa hg.1.1;have h2:=Aa hg.1.2;subst h1;subst h2;cases mx with
  |none=>exact⟨_,_,_,_,e,rfl,by simp,by simp,by simp,by simpa using .jk⟩
  |some m =>
   have h3:=Aa hg.2;subst h3;exact⟨_,_,_,_,e,rfl,by simp,by simp,by simp,by simpa using .jk⟩
 ·rename_i o off len cap
  cases hv with
  |sl _ _ _ _ b N hb hc =>
  cases mx with
  |none =>
   simp only at e;obtain⟨hg,e⟩:=bQ e;rw[Ac] at hg;have g1:=Ad hg.1;have g2:=Ad hg.2;rw[aF,aF] at e
   split at e
   ·rename_i he
    have he:=Aa he;exact⟨_,_,_,_,e,rfl,g1,g2,by simp,by simp only[Ej,Br he.symm];exact .sl _ _ _ _ _ _ hb (by omega)⟩
   ·rename_i he
    rw[aF] at e;have BA:¬cap=lo:=λh=>by rw[h,Ci] at he;cases he
    exact⟨_,_,_,_,e,rfl,g1,g2,by simp,by simp only[Ej,Bf BA,Bx,cH];exact .sl _ _ _ _ _ _ hb (by omega)⟩
  |some m =>
   simp only at e;obtain⟨hg,e⟩:=bQ e;rw[Ac,Ac] at hg;have g1:=Ad hg.1.1;have g2:=Ad hg.1.2;have g3:=Ad hg.2;rw[aF,aF] at e
   split at e
   ·rename_i he
    have he:=Aa he;exact⟨_,_,_,_,e,rfl,g1,g2,g3,by simp only[Cm,Br he.symm];exact .sl _ _ _ _ _ _ hb (by omega)⟩
   ·rename_i he
    rw[aF] at e;have BA:¬m=lo:=λh=>by rw[h,Ci] at he;cases he
    exact⟨_,_,_,_,e,rfl,g1,g2,g3,by simp only[Cm,Bf BA,Bx,cH];exact .sl _ _ _ _ _ _ hb (by omega)⟩
 ·rename_i o off len G1
  cases hv with
  |su _ _ _ _ b N cap hb hc hr =>
  cases mx with
  |none =>
   simp only at e;obtain⟨hg,e1⟩:=bQ e;clear e;rw[Ac,Ac] at hg;have g0:=Aa hg.1.1;subst g0;have e:=e1;clear e1;have g1:=Ad hg.1.2;have g2:=Ad hg.2
   split at e
   ·rename_i he
    have he:=dR he;rw[aF,aF] at e;refine⟨_,_,_,_,e,rfl,g1,Bi g2 hc,by simp,?_⟩;simp only[Ej,Bf (show ¬cap=lo by omega),Bx,cH];refine .su _ _ _ _ _ _ _ hb (by omega) ?_
    have:lo*sz+(cap-lo)*sz=cap*sz:=by rw[<-Co,Nat.add_sub_cancel' (by omega)]
    omega
   ·rename_i he
    have he:¬lo<len:=λh=>by rw[show Nat.blt lo len=true by simpa[Cy] using h] at he;cases he
    split at e
    ·rename_i h0
     have h0:=Aa h0;subst h0;have e:=e;refine⟨_,_,_,_,e,rfl,g1,Bi g2 hc,by simp,?_⟩
     have:hi=0:=by omega
     subst this;have hl:len=0:=by omega
     subst hl;simp only[Ej,Fo,Bx,cH,Ax,ite_self,Gq];exact .su _ _ _ _ _ _ _ hb (by omega) (by omega)
    ·refine⟨_,_,_,_,e,rfl,g1,Bi g2 hc,by simp,?_⟩
     rw[show hi-lo=0 by omega];split
     ·exact .se _ _
     ·exact .se _ _
  |some m =>
   simp only at e;obtain⟨hg,e⟩:=bQ e;rw[Ac,Ac] at hg;have g1:=Ad hg.1.1;have g2:=Ad hg.1.2;have g3:=Ad hg.2;rw[aF,aF] at e
   split at e
   ·rename_i he
    have he:=Aa he;exact⟨_,_,_,_,e,rfl,g1,g2,Bi g3 hc,by simp only[Cm,Br he.symm];exact .sl _ _ _ _ _ _ hb (by omega)⟩
   ·rename_i he
    rw[aF] at e;have BA:¬m=lo:=λh=>by rw[h,Ci] at he;cases he
    exact⟨_,_,_,_,e,rfl,g1,g2,Bi g3 hc,by simp only[Cm,Bf BA,Bx,cH];exact .sl _ _ _ _ _ _ hb (by omega)⟩
 ·cases hv with
  |se a cap =>
  cases mx with
  |none =>
   simp only at e;obtain⟨hg,e⟩:=bQ e;rw[Ac] at hg;have h1:=Aa hg.1;have h2:=Aa hg.2;subst h1;subst h2;refine⟨_,_,_,_,e,rfl,by simp,by simp,by simp,?_⟩;split
   ·exact .se _ _
   ·exact .se _ _
  |some m=>cases e
 ·rename_i x
  cases x<;>simp only[OE] at e<;>first|cases e|skip
  ·cases hv with
   |og o off len b B cap hb hc =>
   cases mx with
   |none =>
    simp only at e;obtain⟨hg,e2⟩:=bQ e;clear e;rw[Ac] at hg;have g1:=Aa hg.1;have g2:=Ad hg.2;subst g1
    split at e2
    ·refine⟨_,_,_,_,e2,rfl,Ae _,Dr _,by simp,?_⟩
     exact .re _ _
    refine⟨_,_,_,_,e2,rfl,Dr _,Bi g2 hc,by simp,?_⟩;simp only[Ej,Fo,Bx,cH,Ax,ite_self,Gq];exact .og _ _ _ _ _ _ hb (Bi g2 hc)
   |some m =>
    simp only at e;obtain⟨hg,e2⟩:=bQ e;clear e;rw[Ac,Ac] at hg;have g1:=Aa hg.1.1;have g2:=Aa hg.1.2;have g3:=Aa hg.2;subst g1 g2 g3;exact⟨_,_,_,_,e2,rfl,Ae _,Ae _,Dr _,.rz _⟩
  ·cases hv with
   |re a cap =>
   cases mx with
   |none =>
    simp only at e;obtain⟨hg,e2⟩:=bQ e;clear e;rw[Ac] at hg;have g1:=Aa hg.1;have g2:=Aa hg.2;subst g1 g2;exact⟨_,_,_,_,e2,rfl,Ae _,Dr _,by simp,.re _ _⟩
   |some m =>
    simp only at e;obtain⟨hg,e2⟩:=bQ e;clear e;rw[Ac,Ac] at hg;have g1:=Aa hg.1.1;have g2:=Aa hg.1.2;have g3:=Aa hg.2;subst g1 g2 g3;exact⟨_,_,_,_,e2,rfl,Ae _,Ae _,Dr _,.rz _⟩
theorem a3A{v:V}{u:Value}{k:Nat->aa}(hv:VR J v u)(e:tw v k=.ok r):∃a len cap,u=.slice a len cap/\k len=.ok r/\len<=cap:=by
 cases hv<;>simp only[tw,Vf] at e<;>first|cases e|exact⟨_,_,_,rfl,e,by simp⟩|exact⟨_,_,_,rfl,e,by assumption⟩
theorem aTb(H:HR P w0 J h nx w){t el:TypeId}{sz:Nat}{x:Operand}{lo hi mx:Option Operand}(hu:P.underlying t=some (.slice el))(hs:aU P el=some sz)(UM:(mx.isSome&&hi.isNone)=false)(hT:XR J tm tmps (Op.operands (.slice t x lo hi mx)).toList)
  (e:pK (.slL sz (aE P x) (lo.map (aE P)) (hi.map (aE P)) (mx.map (aE P))) tm h k=.ok r):∃v,k v=.ok r/\PG P w J tmps ds ⟨dst,.slice t x lo hi mx,ty,pos,AK,BE⟩ v:=by
 simp only[pK] at e;obtain⟨c,e1,hc⟩:=bd (ds:=ds) (o:=⟨dst,.slice t x lo hi mx,ty,pos,AK,BE⟩) H hT (by simp[Op.operands]) e;obtain⟨a,len,cap,hv,e2,PQ⟩:=a3A hc e1;obtain⟨l,e3,hl⟩:=uY (ds:=ds) H (hT.sub (λy hy=>by simp[Op.operands];simp at hy;simp[hy])) e2;obtain⟨b,e4,hb⟩:=uY (ds:=ds) H (hT.sub (λy hy=>by simp[Op.operands];simp at hy;simp[hy])) e3;cases mx with
 |none =>
  simp only[Option.map_none] at e4;obtain⟨c',a',LA,L4,g1,g2,g3,g4,g5,g6⟩:=a3b hc e4;rw[hv] at g2;simp at g2;obtain⟨rfl,rfl,rfl⟩:=g2;have G9:=jU (P:=P) (w:=w) (isS:=true) (len:=len) (cap:=cap) hl hb g3 (by simpa using g4);refine⟨c',g1,_,?_,g6⟩;simp only[ev] at G9 hv;simp[execOp,ev,hv,Instr.sliceAt,Instr.slice,run_underlying hu,G9,run_sizeOf hs]
 |some u =>
  simp only[Bx] at e4;obtain⟨c2,h2,e5⟩:=fJ e4;have DB:=iT (ds:=ds) H.jt (hT.sub (λy hy=>by simp[Op.operands];simp at hy;simp[hy])) h2;obtain⟨ku,m,hm,e6⟩:=rQ e5;subst hm;rcases hb with⟨rfl,_⟩|⟨z,kz,rfl,hz⟩
  ·simp at UM
  ·obtain⟨c',a',LA,L4,g1,g2,g3,g4,g5,g6⟩:=a3b hc e6
   rw[hv] at g2;simp at g2;obtain⟨rfl,rfl,rfl⟩:=g2;have G9:=nJ (P:=P) (w:=w) (len:=len) (cap:=cap) hl hz DB.kj g3 (by simpa using g4) (by simpa using g5);refine⟨c',g1,_,?_,g6⟩;simp only[ev] at G9 hv;simp[execOp,ev,hv,Instr.sliceAt,Instr.slice,run_underlying hu,G9,run_sizeOf hs]
end
end Go.CM
end
