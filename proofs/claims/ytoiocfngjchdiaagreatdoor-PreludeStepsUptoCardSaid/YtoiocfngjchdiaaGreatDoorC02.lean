import Derived.Test.YtoiocfngjchdiaaGreatDoorC01
import Derived.Test.YtoiocfngjchdiaaGreatDoorA03
import Derived.LaidEqlPtr
set_option linter.all false
noncomputable section
namespace Go.CM
section
open Go.AM (oneC overwrite run_underlying run_sizeOf dA aU aP aM bO)
variable {P:Program}{w0:Base}{w:World}{J:Rho}{h:T O}{nx:Q}
theorem nH(l:Nat):oR l=256^l:=by
 unfold oR;rw[show Nat.pow 2 (8*l)=2^(8*l) from rfl,Nat.pow_mul]
theorem jv:∀s:List UInt8,packL s<256^s.length
 |[]=>by simp[packL]
 |b::s=>by
  have h1:=jv s;have h2:b.toNat < 256:=b.toNat_lt;simp only[packL,An,Gi];omega
theorem kY:∀a b:List UInt8,packL (a++b)=packL a+packL b*256^a.length
 |[],b=>by simp[packL]
 |x::a,b=>by
  simp only[De,packL,kY a b,An,Gi,Nat.mul_add];rw[Dc,Nat.mul_left_comm 256 (packL b),Gj 256 (256^a.length)]
theorem packL_inj:∀{a b:List UInt8},a.length=b.length->packL a=packL b->a=b
 |[],[],_,_=>rfl
 |[],_::_,h,_=>by simp at h
 |_::_,[],h,_=>by simp at h
 |x::a,y::b,h,e=>by
  simp only[packL] at e;have h1:x.toNat < 256:=x.toNat_lt;have h2:y.toNat < 256:=y.toNat_lt;have h3:x.toNat=y.toNat:=by omega
  have h4:=packL_inj (a:=a) (b:=b) (by simpa using h) (by omega);rw[Fp.1 h3,h4]
theorem rR(s:List UInt8)(k:Nat)(hk:k<=s.length):packL (s.take k)=packL s%256^k/\packL (s.drop k)=packL s/256^k:=by
 have h1:=kY (s.take k) (s.drop k);rw[List.take_append_drop,Dw,Nat.min_eq_left hk] at h1;have h2:=jv (s.take k);rw[Dw,Nat.min_eq_left hk] at h2;have hp:0<256^k:=Nat.pow_pos (by omega);rw[h1];constructor
 ·rw[Nat.add_mul_mod_self_right,Fk h2]
 ·rw[Nat.add_mul_div_right _ _ hp,Nat.div_eq_of_lt h2,Bo]
theorem aAF(s:List UInt8)(j:Nat)(hj:j<s.length):packL s/256^j%256=(s[j]).toNat:=by
 have h1:=(rR s j (by omega)).2;rw[Dv hj] at h1;rw[<-h1];simp only[packL];have h2:(s[j]).toNat < 256:=(s[j]).toNat_lt;omega
theorem aEM(k:IntKind)(m:Nat)(hm:m<=Ly k):k.wrap (.ofNat m)=.ofNat m:=by
 cases k<;>simp only[Ly] at hm<;>simp[IntKind.wrap,IntKind.bits,IntKind.signed]<;>omega
theorem qQ{k:IntKind}{n:Int}{kn:Int->Res}{r:V}(e:iB k n kn=.ok r):kn (k.wrap n)=.ok r:=by
 cases n with
 |ofNat m =>
  simp only[iB,aF] at e
  split at e
  ·rename_i hb
   rw[aEM k m (Ad hb)];exact e
  ·rw[fJ] at e;exact e
 |negSucc m=>simp only[iB,aF,fJ] at e;exact e
theorem aE1(x y:Int):Rw x y=x+y:=by
 unfold Rw;split<;>rfl
theorem aGo(x y:Int):U9 x y=x*y:=by
 unfold U9;split<;>rfl
theorem aHs(x y:Int):N3 x y=x-y:=by
 unfold N3;split
 ·rename_i a b
  split
  ·rename_i hb
   have:=Ad hb
   simp only[Dk];omega
  ·rename_i hb
   have:¬b<=a:=λh=>by rw[Ah h] at hb;cases hb
   simp only[Dk];omega
 ·rfl
theorem vW(x y:Int):K5 x y=decide (x<=y):=by
 unfold K5;split
 ·rename_i a b
  rw[Dr,Nat.ble_eq,Cf];simp only[Dk];omega
 ·rename_i a b;rw[eq_comm,decide_eq_false_iff_not];simp only[Dk];omega
 ·rename_i a b;rw[eq_comm,Cf];simp only[Dk];omega
 ·rename_i a b
  rw[Dr,Nat.ble_eq,Cf];omega
theorem rD(x y:Int):Kz x y=(x==y):=by
 unfold Kz;split
 ·rename_i a b;rw[Dr,Ga,Bx];simp only[Dk];omega
 ·rename_i a b;rw[Dr,Ga,Bx];omega
 ·rename_i h1 h2
  rw[eq_comm,beq_eq_false_iff_ne];intro e;subst e;cases x with
  |ofNat a=>exact h1 a a rfl rfl
  |negSucc a=>exact h2 a a rfl rfl
theorem lV{b:Bool}{k:V->Res}{r:V}(e:bK b k=.ok r):k (.bool b)=.ok r:=by cases b<;>exact e
theorem tN{k k':IntKind}(e:Nat.beq (JN k) (JN k')=true):k=k':=by
 cases k<;>cases k'<;>first|rfl|(exact absurd e (by decide))
theorem aFf{op:BinOp}{kd:IntKind}{x y:Int}{k:V->Res}{r:V}{t:TypeId}{ox oy:Operand}(e:pA op kd x y k=.ok r) :
  ∃c u,k c=.ok r/\(eqGuard op t ox oy (.int kd x) (.int kd y)).run P w=.ok () w/\(binOp op t (.int kd x) (.int kd y)).run P w=.ok u w/\VR J c u:=by
 have hg:(eqGuard op t ox oy (.int kd x) (.int kd y)).run P w=.ok () w:=by rw[eqGuard_at_int];rfl
 cases op<;>simp only[pA] at e<;>first|cases e|skip
 case add =>
  have e:=qQ e;rw[aE1] at e;exact⟨_,.int kd (kd.wrap (x+y)),e,hg,by simp[binOp,Op.intArith],.int _ _⟩
 case sub =>
  have e:=qQ e;rw[aHs] at e;exact⟨_,.int kd (kd.wrap (x-y)),e,hg,by simp[binOp,Op.intArith],.int _ _⟩
 case mul =>
  have e:=qQ e;rw[aGo] at e;exact⟨_,.int kd (kd.wrap (x*y)),e,hg,by simp[binOp,Op.intArith],.int _ _⟩
 case rem =>
  obtain⟨h1,h2⟩:=bP e;rw[fJ] at h2;rw[rD] at h1;have h0:¬y=0:=by simpa using h1
  exact⟨_,.int kd (x.tmod y),h2,hg,by simp[binOp,Op.intDiv,h0],.int _ _⟩
 case eql =>
  have e:=lV e;rw[rD] at e;exact⟨_,.bool (x==y),e,hg,by simp[binOp,Op.intCmp],.bool _⟩
 case neq =>
  have e:=lV e;rw[rD] at e;exact⟨_,.bool (!(x==y)),e,hg,by simp[binOp,Op.intCmp,bne],.bool _⟩
 case lss =>
  have e:=lV e;rw[vW,show(!decide (y<=x))=decide (x<y) by rw[Dr];simp] at e;exact⟨_,.bool (decide (x<y)),e,hg,by simp[binOp,Op.intCmp],.bool _⟩
 case leq =>
  have e:=lV e;rw[vW] at e;exact⟨_,.bool (decide (x<=y)),e,hg,by simp[binOp,Op.intCmp],.bool _⟩
 case gtr =>
  have e:=lV e;rw[vW,show(!decide (x<=y))=decide (x>y) by rw[Dr];simp] at e;exact⟨_,.bool (decide (x>y)),e,hg,by simp[binOp,Op.intCmp],.bool _⟩
 case geq =>
  have e:=lV e;rw[vW] at e;exact⟨_,.bool (decide (x>=y)),e,hg,by simp[binOp,Op.intCmp],.bool _⟩
theorem qp{s s':List UInt8}:(Nat.beq s.length s'.length&&Nat.beq (packL s) (packL s'))=(s==s'):=by
 rw[Dr,Ac,Ga,Ga,Bx];exact⟨λ⟨a,b⟩=>packL_inj a b,λe=>by subst e;exact⟨rfl,rfl⟩⟩
theorem aFh{op:BinOp}{s s':List UInt8}{k:V->Res}{r:V}{t:TypeId}{ox oy:Operand}(e:zc op s.length (packL s) s'.length (packL s') k=.ok r) :
  ∃c u,k c=.ok r/\(eqGuard op t ox oy (.string ⟨⟨s⟩⟩) (.string ⟨⟨s'⟩⟩)).run P w=.ok () w/\(binOp op t (.string ⟨⟨s⟩⟩) (.string ⟨⟨s'⟩⟩)).run P w=.ok u w/\VR J c u:=by
 have hg:(eqGuard op t ox oy (.string ⟨⟨s⟩⟩) (.string ⟨⟨s'⟩⟩)).run P w=.ok () w:=by rw[eqGuard_at_string];rfl
 cases op<;>simp only[zc] at e<;>first|cases e|skip
 case add =>
  obtain⟨h1,h2⟩:=bP e;rw[aF,aF] at h2;have hle:=Ad h1
  have TH:¬((s.length:Int)+(s'.length:Int)>IntKind.i64.max):=by
   rw[show IntKind.i64.max=9223372036854775807 by decide];omega
  refine⟨_,.string ⟨⟨s++s'⟩⟩,h2,hg,?_,.str _ _ _ (by simp) (by rw[kY,nH])⟩;have h3:((⟨⟨s⟩⟩:ByteArray).size:Int)+((⟨⟨s'⟩⟩:ByteArray).size:Int)=(s.length:Int)+(s'.length:Int):=rfl
  have h4:(⟨⟨s⟩⟩:ByteArray)++⟨⟨s'⟩⟩=⟨⟨s++s'⟩⟩:=by
   apply ByteArray.ext;simp
  simp only[binOp,Op.stringOp];rw[Bc (by simpa[h3] using TH),h4];rfl
 case eql =>
  have e:=lV e;rw[qp] at e;exact⟨_,.bool (s==s'),e,hg,by simp[binOp,Op.stringOp,ByteArray.toList_eq],.bool _⟩
 case neq =>
  have e:=lV e;rw[qp] at e;exact⟨_,.bool (!(s==s')),e,hg,by simp[binOp,Op.stringOp,ByteArray.toList_eq],.bool _⟩
theorem aFg{op:BinOp}{a b:V}{k:V->Res}{r:V}{t:TypeId}{ox oy:Operand}{va vb:Value}(ha:VR J a va)(hb:VR J b vb)(e:nk op a b k=.ok r) :
  ∃c u,k c=.ok r/\(eqGuard op t ox oy va vb).run P w=.ok () w/\(binOp op t va vb).run P w=.ok u w/\VR J c u:=by
 cases a<;>simp only[nk] at e<;>first|cases e|skip
 ·rename_i kd x
  cases b<;>simp only at e<;>first|cases e|skip
  obtain⟨h1,h2⟩:=bP e;obtain rfl:=tN h1;rw[ha.inv_int,hb.inv_int];exact aFf h2
 ·cases b<;>simp only at e<;>first|cases e|skip
  obtain⟨s,rfl,rfl,rfl⟩:=ha.inv_str;obtain⟨s',rfl,rfl,rfl⟩:=hb.inv_str;exact aFh e
end
section
open Go.AM (oneC overwrite run_underlying run_sizeOf dA aU aP aM aC aO AD DJ bO cE)
variable {P:Program}{w0:Base}{w:World}{J:Rho}{h:T O}{nx:Q}{tm:T V}{tmps:Array Value}{ds:List Deferred}{k:V->Res}{r v:V}
variable {dst:Option Nat}{ty:TypeId}{pos:String}{AJ:Array Edge}{BE:Option (Nat×Bool)}
def PG(P:Program)(w:World)(J:Rho)(tmps:Array Value)(ds:List Deferred)(o:Oper)(v:V):Prop:=∃u,(execOp (ev tmps ds) o).run P w=.ok (.value u) w/\VR J v u
theorem XR.of{xs:List Operand}{ys:Array Operand}(hT:XR J tm tmps ys.toList)(hs:∀x∈xs,x∈ys.toList):XR J tm tmps xs:=λt ht=>hT t (hs _ ht)
theorem opd(H:HR P w0 J h nx w){o:Oper}(hT:XR J tm tmps o.op.operands.toList){x:Operand}(hx:x∈o.op.operands.toList){k:V->Res}(e:xK (aE P x) tm k=.ok r) :
  ∃c,k c=.ok r/\VR J c (ev tmps ds x):=by
 obtain⟨c,h1,h2⟩:=fA e;exact⟨c,h2,hY H.glob (hT.sub (by simpa using hx)) h1⟩
theorem aNa(H:HR P w0 J h nx w){x:Operand}(hT:XR J tm tmps (Op.operands (.move x)).toList)(e:pK (.mv (aE P x)) tm h k=.ok r):∃v,k v=.ok r/\PG P w J tmps ds ⟨dst,.move x,ty,pos,AJ,BE⟩ v:=by
 obtain⟨c,e,hc⟩:=opd (ds:=ds) (o:=⟨dst,.move x,ty,pos,AJ,BE⟩) H hT (by simp[Op.operands]) e;exact⟨c,e,_,by simp[execOp],hc⟩
theorem aDM(H:HR P w0 J h nx w){x:Operand}(hT:XR J tm tmps (Op.operands (.assign x)).toList)(e:pK (.mv (aE P x)) tm h k=.ok r):∃v,k v=.ok r/\PG P w J tmps ds ⟨dst,.assign x,ty,pos,AJ,BE⟩ v:=by
 obtain⟨c,e,hc⟩:=opd (ds:=ds) (o:=⟨dst,.assign x,ty,pos,AJ,BE⟩) H hT (by simp[Op.operands]) e;exact⟨c,e,_,by simp[execOp],hc⟩
theorem aNb(H:HR P w0 J h nx w){c a b:Operand}(hT:XR J tm tmps (Op.operands (.pick c a b)).toList)(e:pK (.pick (aE P c) (aE P a) (aE P b)) tm h k=.ok r) :
  ∃v,k v=.ok r/\PG P w J tmps ds ⟨dst,.pick c a b,ty,pos,AJ,BE⟩ v:=by
 have NJ:=hT;simp only[pK] at e;obtain⟨x,e,hx⟩:=opd (ds:=ds) (o:=⟨dst,.pick c a b,ty,pos,AJ,BE⟩) H hT (by simp[Op.operands]) e;obtain⟨t,rfl,e⟩:=uK e;have GW:=hx.inv_bool;cases t with
 |true =>
  obtain⟨y,e,hy⟩:=opd (ds:=ds) (o:=⟨dst,.pick c a b,ty,pos,AJ,BE⟩) H hT (by simp[Op.operands]) e;exact⟨y,e,_,by simp[execOp,GW,Go.asBool],hy⟩
 |false =>
  obtain⟨y,e,hy⟩:=opd (ds:=ds) (o:=⟨dst,.pick c a b,ty,pos,AJ,BE⟩) H hT (by simp[Op.operands]) e;exact⟨y,e,_,by simp[execOp,GW,Go.asBool],hy⟩
theorem vZ{o:O}(e:vY o=true):∃n t BW CB ty ex,o=.row n t BW CB ty ex:=by
 cases o<;>first|exact⟨_,_,_,_,_,_,rfl⟩|cases e
theorem aCh(H:HR P w0 J h nx w){o o':Q}{off DE b b' N N':Nat}{k:Bool->Res}(h1:J o=some (b,N))(h2:J o'=some (b',N'))(e:I6 h o off o' DE k=.ok r) :
  ∃t,k t=.ok r/\(t=true->b=b'/\off=DE)/\(t=false->(⟨b,off,none⟩:Addr)≠⟨b',DE,none⟩/\(∃ca ta,w.heap[b]?=some (.cells ca ta (0,0)))/\∃ca ta,w.heap[b']?=some (.cells ca ta (0,0))):=by
 have row:∀{q:Q}{b N:Nat},J q=some (b,N)->vY (h.ob q)=true->∃ca ta,w.heap[b]?=some (.cells ca ta (0,0)):=λ{q b N} hq hl=>by
  obtain⟨n,t,BW,CB,ty,ex,ho⟩:=vZ hl
  have:=H.obj q b N hq
  rw[ho] at this;cases this with|row _ _ _ _ _ _ _ _ vs hb hw=>exact⟨_,_,hw⟩
 unfold I6 at e
 split at e
 ·rename_i hb
  obtain rfl:=Q.beq_iff.1 hb;rw[h1] at h2;obtain⟨rfl,rfl⟩:b=b'/\N=N':=by simpa using h2
  split at e
  ·rename_i ho
   exact⟨true,e,λ_=>⟨rfl,Aa ho⟩,(λh=>by cases h)⟩
  ·rename_i ho
   rw[bV] at e;obtain⟨hg,e⟩:=bP e;refine⟨false,e,(λh=>by cases h),λ_=>⟨λhe=>?_,row h1 hg,row h1 hg⟩⟩;simp at he;subst he;rw[Cj] at ho;cases ho
 ·rename_i hb
  rw[bV,bV] at e;obtain⟨hg,e⟩:=bP e;rw[Ac] at hg;refine⟨false,e,(λh=>by cases h),λ_=>⟨λhe=>?_,row h1 hg.1,row h2 hg.2⟩⟩;simp at he;obtain⟨rfl,_⟩:=he;have BD:o≠o':=λe=>by rw[Q.beq_iff.2 e] at hb;cases hb
  have hs:=H.sep o o' b N N' BD h1 h2;obtain⟨n,t,BW,CB,ty,ex,ho⟩:=vZ hg.1;obtain⟨n',t',LC,Ky,Gz,ex',E7⟩:=vZ hg.2;rw[ho,E7] at hs;simp[Sh] at hs
def WJ(P:Program)(t:TypeId):EqM->Operand->Prop
 |.ptr,_=>∃e j,P.underlying t=some (.pointer e)/\P.info? e=some j/\j.size≠0
 |.bool,_=>P.underlying t=some .bool
 |.nilS,y=>y=.const (.slice none 0 0)/\∃e,P.underlying t=some (.slice e)
 |.nilM,y=>y=.const (.map none)/\∃a b,P.underlying t=some (.map a b)
 |.nilF,y=>y=.const .nilFunc/\∃a b c,P.underlying t=some (.func a b c)
 |.nilI,y=>y=.const .nilIface/\∃m,P.underlying t=some (.interface m)
theorem aCe(H:HR P w0 J h nx w){m:EqM}{a b:V}{k:Bool->Res}{t:TypeId}{x y:Operand}{u u':Value}(ht:WJ P t m y)(ha:VR J a u)(hb:VR J b u')(hy:∀c,y=.const c->u'=c)(e:GO m h a b k=.ok r) :
  ∃z,k z=.ok r/\(∀op,(eqGuard op t x y u u').run P w=.ok () w)/\(binOp .eql t u u').run P w=.ok (.bool z) w/\(binOp .neq t u u').run P w=.ok (.bool (!z)) w:=by
 have neq:∀{u u':Value}{z:Bool},(∀n,(Op.equalIn (n+1) t u u').run P w=.ok z w)->(binOp .eql t u u'=do pure (.bool (<-Op.equal t u u')))->(binOp .neq t u u'=do pure (.bool (!(<-Op.equal t u u')))) ->
   (binOp .eql t u u').run P w=.ok (.bool z) w/\(binOp .neq t u u').run P w=.ok (.bool (!z)) w:=λ{u u' z} h1 h2 h3=>by
  have h4:(Op.equal t u u').run P w=.ok z w:=h1 9999;rw[h2,h3];constructor
  ·simp[h4]
  ·simp[h4]
 cases m with
 |ptr =>
  obtain⟨el,j,hu,hi,hs⟩:=ht;simp only[GO] at e;cases a<;>simp only at e<;>first|cases e|skip
  ·cases ha
   cases b<;>simp only at e<;>first|cases e|skip
   ·cases hb
    exact⟨true,e,λop=>by rw[eqGuard_at_pointer];rfl,neq (λn=>by simp[Op.equalIn,run_underlying hu]) rfl rfl⟩
   ·obtain⟨bb,N,rfl,h1⟩:=hb.inv_ptr
    exact⟨false,e,λop=>by rw[eqGuard_at_pointer];rfl,neq (λn=>by simp[Op.equalIn,run_underlying hu]) rfl rfl⟩
  ·obtain⟨b1,N1,rfl,h1⟩:=ha.inv_ptr
   cases b<;>simp only at e<;>first|cases e|skip
   ·cases hb
    exact⟨false,e,λop=>by rw[eqGuard_at_pointer];rfl,neq (λn=>by simp[Op.equalIn,run_underlying hu]) rfl rfl⟩
   ·obtain⟨b2,N2,rfl,h2⟩:=hb.inv_ptr
    obtain⟨z,e,Iv,IQ⟩:=aCh H h1 h2 e;refine⟨z,e,λop=>by rw[eqGuard_at_pointer];rfl,?_⟩;cases z with
    |true =>
     obtain⟨rfl,rfl⟩:=Iv rfl;exact neq (λn=>by simp[Op.equalIn,run_underlying hu,sizeOf,typeInfo,hi,run_sameAddr_same]) rfl rfl
    |false =>
     obtain⟨g1,⟨ca,ta,g2⟩,cb,tb,g3⟩:=IQ rfl;exact neq (λn=>by simp[Op.equalIn,run_underlying hu,sizeOf,typeInfo,hi,hs,run_sameAddr_other w g1 g2 g3]) rfl rfl
 |bool =>
  simp only[GO] at e;obtain⟨p,hp,e1⟩:=uK e;obtain⟨q,hq,e2⟩:=uK e1;subst hp;subst hq;rw[ha.inv_bool,hb.inv_bool];have hu:P.underlying t=some .bool:=ht;exact⟨p==q,e2,λop=>by rw[eqGuard_at_bool];rfl,neq (λn=>by simp[Op.equalIn,run_underlying hu]) rfl rfl⟩
 |nilS =>
  simp only[GO] at e;obtain⟨rfl,el,hu⟩:=ht;obtain rfl:=hy _ rfl;cases ha<;>simp only at e<;>first|cases e|skip
  all_goals exact⟨_,e,λop=>by rw[eqGuard_at_slice];rfl,neq (λn=>by simp[Op.equalIn,run_underlying hu]) rfl rfl⟩
 |nilM =>
  simp only[GO] at e;obtain⟨rfl,a',b',hu⟩:=ht;obtain rfl:=hy _ rfl;cases ha<;>simp only at e<;>first|cases e|skip
  all_goals exact⟨_,e,λop=>by cases op<;>rfl,neq (λn=>by simp[Op.equalIn,run_underlying hu]) rfl rfl⟩
 |nilF =>
  simp only[GO] at e;obtain⟨rfl,a',b',c',hu⟩:=ht;obtain rfl:=hy _ rfl;cases ha<;>simp only at e<;>first|cases e|skip
  all_goals exact⟨_,e,λop=>by cases op<;>rfl,neq (λn=>by simp[Op.equalIn,run_underlying hu]) rfl rfl⟩
 |nilI =>
  simp only[GO] at e;obtain⟨rfl,m',hu⟩:=ht;obtain rfl:=hy _ rfl;cases ha<;>simp only at e<;>first|cases e|skip
  ·exact⟨_,e,λop=>by rw[eqGuard_nil_constR];rfl,neq (λn=>by simp[Op.equalIn,run_underlying hu]) rfl rfl⟩
  ·exact⟨_,e,λop=>by rw[eqGuard_at_iface];rfl,neq (λn=>by simp[Op.equalIn,run_underlying hu]) rfl rfl⟩
end
section
open Go.AM (oneC overwrite run_underlying run_sizeOf dA aU aP aM aC aO AD DJ bO cE bytes_beq)
variable {P:Program}{w0:Base}{w:World}{J:Rho}{h:T O}{nx:Q}{tm:T V}{tmps:Array Value}{ds:List Deferred}{k:V->Res}{r v:V}
variable {dst:Option Nat}{ty:TypeId}{pos:String}{AJ:Array Edge}{BE:Option (Nat×Bool)}
theorem dM{a b:Nat}(h:Nat.blt a b=true):a<b:=by simpa[Ct] using h
theorem dL{α β:Type}{o:Option α}{f:α->Option β}{b:β}(h:o.bind f=some b):∃a,o=some a/\f a=some b:=by
 cases o with
 |none=>cases h
 |some a=>exact⟨a,rfl,h⟩
theorem mF{α β:Type}{o:Option α}{f:α->β}{b:β}(h:o.map f=some b):∃a,o=some a/\f a=b:=by
 cases o with
 |none=>cases h
 |some a=>exact⟨a,rfl,by simpa using h⟩
theorem aNc(H:HR P w0 J h nx w){t:TypeId}{x:Operand}(hT:XR J tm tmps (Op.operands (.unOp .not t x)).toList)(e:pK (.not (aE P x)) tm h k=.ok r) :
  ∃v,k v=.ok r/\PG P w J tmps ds ⟨dst,.unOp .not t x,ty,pos,AJ,BE⟩ v:=by
 simp only[pK] at e;obtain⟨c,e1,hc⟩:=opd (ds:=ds) (o:=⟨dst,.unOp .not t x,ty,pos,AJ,BE⟩) H hT (by simp[Op.operands]) e;obtain⟨b,hb,e2⟩:=uK e1;subst hb;exact⟨_,lV e2,_,by simp[execOp,hc.inv_bool,Op.unary],.bool _⟩
theorem aSU(H:HR P w0 J h nx w){s d:TypeId}{x:Operand}{ks kd:IntKind}(hs:P.underlying s=some (.int ks))(hd:P.underlying d=some (.int kd))(hT:XR J tm tmps (Op.operands (.convert s d x)).toList)(e:pK (.cvi kd (aE P x)) tm h k=.ok r) :
  ∃v,k v=.ok r/\PG P w J tmps ds ⟨dst,.convert s d x,ty,pos,AJ,BE⟩ v:=by
 simp only[pK] at e;obtain⟨c,e1,hc⟩:=opd (ds:=ds) (o:=⟨dst,.convert s d x,ty,pos,AJ,BE⟩) H hT (by simp[Op.operands]) e;obtain⟨k1,n,hn,e2⟩:=mz e1;subst hn;exact⟨_,qQ e2,_,by simp[execOp,hc.inv_int,convert,run_underlying hs,run_underlying hd,Conv.intToInt],.int _ _⟩
theorem oe{op:BinOp}{t:TypeId}{x y:Operand}{b:PB}(hb:ak P op t x y=b) :
  b=.bad\/b=.bin op (aE P x) (aE P y)\/∃m,WJ P t m y/\((op=.eql/\b=.eq false m (aE P x) (aE P y))\/(op=.neq/\b=.eq true m (aE P x) (aE P y))):=by
 have main:∀(neg:Bool)(b:PB),(match P.underlying t with
   |some (.pointer e)=>(match aP P e with
    |some s=>(match Nat.blt 0 s with
     |true=>PB.eq neg .ptr (aE P x) (aE P y)
     |false=>.bad)
    |none=>.bad)
   |some .bool=>.eq neg .bool (aE P x) (aE P y)
   |some (.int _)=>.bin op (aE P x) (aE P y)
   |some .string=>.bin op (aE P x) (aE P y)
   |some (.slice _)=>(match hU .nilS y with|true=>.eq neg .nilS (aE P x) (aE P y)|false=>.bad)
   |some (.map _ _)=>(match hU .nilM y with|true=>.eq neg .nilM (aE P x) (aE P y)|false=>.bad)
   |some (.func _ _ _)=>(match hU .nilF y with|true=>.eq neg .nilF (aE P x) (aE P y)|false=>.bad)
   |some (.interface _)=>(match hU .nilI y with|true=>.eq neg .nilI (aE P x) (aE P y)|false=>.bad)
   |_=>.bad)=b->b=.bad\/b=.bin op (aE P x) (aE P y)\/∃m,WJ P t m y/\b=.eq neg m (aE P x) (aE P y):=λneg b hb=>by
  split at hb
  ·rename_i e hu
   split at hb
   ·rename_i s hs
    split at hb
    ·rename_i h0
     obtain⟨j,hj,rfl⟩:=mF hs;exact .inr (.inr ⟨.ptr,⟨e,j,hu,hj,by have:=dM h0;omega⟩,hb.symm⟩)
    ·exact .inl hb.symm
   ·exact .inl hb.symm
  ·exact .inr (.inr ⟨.bool,by assumption,hb.symm⟩)
  ·exact .inr (.inl hb.symm)
  ·exact .inr (.inl hb.symm)
  ·rename_i hu
   split at hb
   ·rename_i hn
    refine .inr (.inr ⟨.nilS,⟨?_,_,hu⟩,hb.symm⟩);unfold hU at hn
    split at hn<;>first|rfl|(cases hn;done)|simp at hn
   ·exact .inl hb.symm
  ·rename_i hu
   split at hb
   ·rename_i hn
    refine .inr (.inr ⟨.nilM,⟨?_,_,_,hu⟩,hb.symm⟩);unfold hU at hn
    split at hn<;>first|rfl|(cases hn;done)|simp at hn
   ·exact .inl hb.symm
  ·rename_i hu
   split at hb
   ·rename_i hn
    refine .inr (.inr ⟨.nilF,⟨?_,_,_,_,hu⟩,hb.symm⟩);unfold hU at hn
    split at hn<;>first|rfl|(cases hn;done)|simp at hn
   ·exact .inl hb.symm
  ·rename_i hu
   split at hb
   ·rename_i hn
    refine .inr (.inr ⟨.nilI,⟨?_,_,hu⟩,hb.symm⟩);unfold hU at hn
    split at hn<;>first|rfl|(cases hn;done)|simp at hn
   ·exact .inl hb.symm
  ·exact .inl hb.symm
 cases op
 case eql =>
  rcases main false b hb with h|h|⟨m,h1,h2⟩
  ·exact .inl h
  ·exact .inr (.inl h)
  ·exact .inr (.inr ⟨m,h1,.inl ⟨rfl,h2⟩⟩)
 case neq =>
  rcases main true b hb with h|h|⟨m,h1,h2⟩
  ·exact .inl h
  ·exact .inr (.inl h)
  ·exact .inr (.inr ⟨m,h1,.inr ⟨rfl,h2⟩⟩)
 all_goals exact .inr (.inl hb.symm)
theorem aG3(H:HR P w0 J h nx w){op:BinOp}{t yt:TypeId}{x y:Operand}(hT:XR J tm tmps (Op.operands (.binOp op t x y yt)).toList)(e:pK (ak P op t x y) tm h k=.ok r) :
  ∃v,k v=.ok r/\PG P w J tmps ds ⟨dst,.binOp op t x y yt,ty,pos,AJ,BE⟩ v:=by
 have fin:∀v u,k v=.ok r->(eqGuard op t x y (ev tmps ds x) (ev tmps ds y)).run P w=.ok () w->(binOp op t (ev tmps ds x) (ev tmps ds y)).run P w=.ok u w->VR J v u ->
   ∃v,k v=.ok r/\PG P w J tmps ds ⟨dst,.binOp op t x y yt,ty,pos,AJ,BE⟩ v:=λv u h0 h1 h2 h3=>⟨v,h0,u,by simp[execOp,h1,h2],h3⟩
 rcases oe (P:=P) (op:=op) (t:=t) (x:=x) (y:=y) rfl with hb|hb|⟨m,ht,hb⟩
 ·rw[hb] at e;cases e
 ·rw[hb] at e
  simp only[pK] at e;obtain⟨a,e1,ha⟩:=opd (ds:=ds) (o:=⟨dst,.binOp op t x y yt,ty,pos,AJ,BE⟩) H hT (by simp[Op.operands]) e;obtain⟨b,e2,hb⟩:=opd (ds:=ds) (o:=⟨dst,.binOp op t x y yt,ty,pos,AJ,BE⟩) H hT (by simp[Op.operands]) e1;obtain⟨c,u,g1,g2,g3,g4⟩:=aFg (P:=P) (w:=w) (J:=J) (t:=t) (ox:=x) (oy:=y) ha hb e2;exact fin c u g1 g2 g3 g4
 ·have HY:∀c,y=.const c->ev tmps ds y=c:=λc hc=>by subst hc;rfl
  rcases hb with⟨rfl,hb⟩|⟨rfl,hb⟩<;>rw[hb] at e<;>simp only[pK] at e
  ·obtain⟨a,e1,ha⟩:=opd (ds:=ds) (o:=⟨dst,.binOp .eql t x y yt,ty,pos,AJ,BE⟩) H hT (by simp[Op.operands]) e
   obtain⟨b,e2,hb⟩:=opd (ds:=ds) (o:=⟨dst,.binOp .eql t x y yt,ty,pos,AJ,BE⟩) H hT (by simp[Op.operands]) e1;obtain⟨z,e3,g1,g2,g3⟩:=aCe (x:=x) H ht ha hb HY e2;exact fin _ _ (lV e3) (g1 _) g2 (by cases z<;>exact .bool _)
  ·obtain⟨a,e1,ha⟩:=opd (ds:=ds) (o:=⟨dst,.binOp .neq t x y yt,ty,pos,AJ,BE⟩) H hT (by simp[Op.operands]) e
   obtain⟨b,e2,hb⟩:=opd (ds:=ds) (o:=⟨dst,.binOp .neq t x y yt,ty,pos,AJ,BE⟩) H hT (by simp[Op.operands]) e1;obtain⟨z,e3,g1,g2,g3⟩:=aCe (x:=x) H ht ha hb HY e2;exact fin _ _ (lV e3) (g1 _) g3 (by cases z<;>exact .bool _)
theorem aC3{o:Q}{off:Nat}(e:JM h o off k=.ok r):∃n t,((∃BW CB ty ex,h.ob o=.row n t BW CB ty ex)\/h.ob o=.ro n t)/\off<n/\k (t.at off)=.ok r:=by
 unfold JM at e;rw[bV] at e;obtain⟨n,t,h1,e1⟩:=xq e;obtain⟨h2,e2⟩:=bP e1;rw[jX,dD] at e2;exact⟨n,t,h1,dM h2,e2⟩
theorem bu{o:Q}{off m:Nat}{k:List V->Res}(e:mD h o off m k=.ok r):∃n t,((∃BW CB ty ex,h.ob o=.row n t BW CB ty ex)\/h.ob o=.ro n t)/\off+m<=n/\k (iV m off t)=.ok r:=by
 unfold mD at e;rw[bV] at e;obtain⟨n,t,h1,e1⟩:=xq e;obtain⟨h2,e2⟩:=bP e1;rw[mA] at e2;exact⟨n,t,h1,Ad h2,e2⟩
theorem aDV{o:O}{k:Nat->T V->Res}(e:Mt o k=.ok r):∃n t,o=.rb n t/\k n t=.ok r:=by
 cases o<;>first|exact⟨_,_,rfl,e⟩|cases e
theorem o5{v:V}{k:Q->Nat->Res}{kr:RK->Res}(e:uM v k kr=.ok r):(∃o off,v=.ptr o off/\k o off=.ok r)\/∃x,v=.rr x/\kr x=.ok r:=by
 cases v<;>first|exact .inl ⟨_,_,rfl,e⟩|exact .inr ⟨_,rfl,e⟩|cases e
theorem VR.inv_rptr{o:Q}{off:Nat}{u:Value}(h:VR J (.rr (.ptr o off)) u):∃b B,u=.pointer (some ⟨b,B+off,none⟩)/\J o=some (b,B):=by cases h;exact⟨_,_,rfl,by assumption⟩
theorem aMd{x:RK}(e:LN h x k=.ok r):∃o off n t,x=.ptr o off/\h.ob o=.rb n t/\off<n/\k (t.at off)=.ok r:=by
 cases x<;>simp only[LN] at e<;>first|cases e|skip
 rw[bV] at e;obtain⟨n,t,h1,e1⟩:=aDV e;obtain⟨h2,e2⟩:=bP e1;rw[jX,dD] at e2;exact⟨_,_,n,t,rfl,h1,dM h2,e2⟩
theorem vn{o:Q}{off m:Nat}{k:List V->Res}(e:bw h o off m k=.ok r):∃n t,h.ob o=.rb n t/\off+m<=n/\k (iV m off t)=.ok r:=by
 unfold bw at e;rw[bV] at e;obtain⟨n,t,h1,e1⟩:=aDV e;obtain⟨h2,e2⟩:=bP e1;rw[mA] at e2;exact⟨n,t,h1,Ad h2,e2⟩
theorem VRs.agg{cs:List V}{vs:List Value}(h:VRs J cs vs)(hk:∀c∈cs,isCell c=true):VR J (.agg cs) (.agg ⟨vs⟩):=.agg cs vs h.1 hk h.2
theorem aSY(H:HR P w0 J h nx w){t:TypeId}{a:Operand}(ht:aM P t=some false)(hT:XR J tm tmps (Op.operands (.load t a)).toList)(e:pK (.ld1 (aE P a)) tm h k=.ok r) :
  ∃v,k v=.ok r/\PG P w J tmps ds ⟨dst,.load t a,ty,pos,AJ,BE⟩ v:=by
 simp only[pK] at e;obtain⟨c,e1,hc⟩:=opd (ds:=ds) (o:=⟨dst,.load t a,ty,pos,AJ,BE⟩) H hT (by simp[Op.operands]) e;rcases o5 e1 with⟨o,off,ho,e2⟩|⟨x,ho,e2⟩
 ·subst ho
  obtain⟨b,N,hv,hb⟩:=hc.inv_ptr;obtain⟨n,tt,h1,h2,e3⟩:=aC3 e2;obtain⟨u,g1,g2,_⟩:=H.cell hb h1 h2;exact⟨_,e3,u,by simp[execOp,hv,Instr.loadAt,Instr.sureAddr,AM.run_loadVar_one ht g1],g2⟩
 ·subst ho
  obtain⟨o,off,n,tt,rfl,h1,h2,e3⟩:=aMd e2;obtain⟨b,N,hv,hb⟩:=hc.inv_rptr;obtain⟨u,g1,g2,_⟩:=H.rcell hb h1 h2;exact⟨_,e3,u,by simp[execOp,hv,Instr.loadAt,Instr.sureAddr,AM.run_loadVar_one ht g1],g2⟩
theorem aSZ(H:HR P w0 J h nx w){t:TypeId}{n:Nat}{a:Operand}(ht:aM P t=some true)(hs:aP P t=some n)(hT:XR J tm tmps (Op.operands (.load t a)).toList)(e:pK (.ldn n (aE P a)) tm h k=.ok r) :
  ∃v,k v=.ok r/\PG P w J tmps ds ⟨dst,.load t a,ty,pos,AJ,BE⟩ v:=by
 simp only[pK] at e;obtain⟨c,e1,hc⟩:=opd (ds:=ds) (o:=⟨dst,.load t a,ty,pos,AJ,BE⟩) H hT (by simp[Op.operands]) e;rcases o5 e1 with⟨o,off,ho,e2⟩|⟨x,ho,e2⟩
 ·subst ho
  obtain⟨b,N,hv,hb⟩:=hc.inv_ptr;obtain⟨m,tt,h1,h2,e3⟩:=bu e2;obtain⟨vs,g1,g2,g3,g4⟩:=H.cells hb h1 h2;exact⟨_,e3,.agg ⟨vs⟩,by simp[execOp,hv,Instr.loadAt,Instr.sureAddr,AM.run_loadVar_agg (P:=P) ht (by rw[g1];exact hs) g2],g3.agg g4⟩
 ·subst ho
  cases x<;>simp only[ph] at e2<;>first|cases e2|skip
  rename_i o off;obtain⟨b,N,hv,hb⟩:=hc.inv_rptr;obtain⟨m,tt,h1,h2,e3⟩:=vn e2;obtain⟨vs,g1,g2,g3,g4⟩:=H.rcells hb h1 h2;exact⟨_,e3,.agg ⟨vs⟩,by simp[execOp,hv,Instr.loadAt,Instr.sureAddr,AM.run_loadVar_agg (P:=P) (o:=N+off) ht (by rw[g1];exact hs) (λj v hj=>by rw[Dc];exact g2 j v hj)],g3.agg g4⟩
theorem aS3(H:HR P w0 J h nx w){x:Operand}(hT:XR J tm tmps (Op.operands (.nilCheck x)).toList)(e:pK (.nck (aE P x)) tm h k=.ok r) :
  ∃v,k v=.ok r/\PG P w J tmps ds ⟨dst,.nilCheck x,ty,pos,AJ,BE⟩ v:=by
 simp only[pK] at e;obtain⟨c,e1,hc⟩:=opd (ds:=ds) (o:=⟨dst,.nilCheck x,ty,pos,AJ,BE⟩) H hT (by simp[Op.operands]) e;have CW:=hc;generalize hg:ev tmps ds x=u at hc CW;cases c<;>simp only at e1<;>first|cases e1|skip
 ·obtain⟨b,N,rfl,hb⟩:=hc.inv_ptr
  exact⟨_,e1,_,by simp[execOp,hg],CW⟩
 ·obtain⟨us,vs,rfl,_⟩:=hc.inv_fn
  exact⟨_,e1,_,by simp[execOp,hg],CW⟩
 ·obtain⟨b,N,rfl,hb⟩:=hc.inv_yld
  exact⟨_,e1,_,by simp[execOp,hg],CW⟩
 ·cases hc with
  |ifc t x v hv=>exact⟨_,e1,_,by simp[execOp,hg],CW⟩
 ·rename_i x
  cases x<;>simp only[R8] at e1<;>first|cases e1|skip
  obtain⟨b,N,rfl,hb⟩:=hc.inv_rptr;exact⟨_,e1,_,by simp[execOp,hg],CW⟩
theorem aYS(H:HR P w0 J h nx w){t:TypeId}{x:Operand}{f s:Nat}{ot:Nat×TypeId}(hf:AD P t f=some ot)(hs:aP P ot.2=some s)(h0:Nat.blt 0 s=true)(hT:XR J tm tmps (Op.operands (.fieldAddr t x f)).toList)
  (e:pK (.fa ot.1 (aE P x)) tm h k=.ok r):∃v,k v=.ok r/\PG P w J tmps ds ⟨dst,.fieldAddr t x f,ty,pos,AJ,BE⟩ v:=by
 simp only[pK] at e;obtain⟨c,e1,hc⟩:=opd (ds:=ds) (o:=⟨dst,.fieldAddr t x f,ty,pos,AJ,BE⟩) H hT (by simp[Op.operands]) e;obtain⟨fs,fl,h1,h2,h3,h4⟩:=DJ hf;have Gr:¬s=0:=by have:=dM h0;omega
 rcases o5 e1 with⟨o,a,ho,e2⟩|⟨x,ho,e2⟩
 case inr =>
  subst ho;cases x<;>simp only[NN] at e2<;>first|cases e2|skip
  rename_i o a;rw[aF] at e2;obtain⟨b,N,hv,hb⟩:=hc.inv_rptr;exact⟨_,e2,.pointer (some ⟨b,N+(a+ot.1),none⟩),by simp[execOp,hv,Instr.fieldAt,run_underlying h1,h2,Instr.sureAddr,fieldPlace,h4,run_sizeOf hs,Gr,cE,h3,Dc],.rptr _ _ _ _ hb⟩
 subst ho;rw[aF] at e2;obtain⟨b,N,hv,hb⟩:=hc.inv_ptr;exact⟨_,e2,.pointer (some ⟨b,a+ot.1,none⟩),by simp[execOp,hv,Instr.fieldAt,run_underlying h1,h2,Instr.sureAddr,fieldPlace,h4,run_sizeOf hs,Gr,cE,h3],.ptr _ _ _ _ hb⟩
theorem lh:∀{n:Nat}{l:List V}{k:List V->Res},n9 n l k=.ok r->n<=l.length/\k (l.take n)=.ok r
 |0,l,k,e=>⟨Di _,by simpa[n9] using e⟩
 |n+1,[],k,e=>by cases e
 |n+1,v::l,k,e=>by
  obtain⟨h1,h2⟩:=lh (n:=n) (l:=l) e;exact⟨by simp;omega,by simpa using h2⟩
theorem jx:∀{off n:Nat}{l:List V}{k:List V->Res},sI off n l k=.ok r->off+n<=l.length/\k ((l.drop off).take n)=.ok r
 |0,n,l,k,e=>by
  obtain⟨h1,h2⟩:=lh (n:=n) (l:=l) e;exact⟨by omega,by simpa using h2⟩
 |off+1,n,[],k,e=>by cases e
 |off+1,n,v::l,k,e=>by
  obtain⟨h1,h2⟩:=jx (off:=off) (n:=n) (l:=l) e;exact⟨by simp;omega,by simpa using h2⟩
theorem xh{t:TypeId}{cs:List V}{vs:List Value}{off s:Nat}{agg:Bool}(hv:VRs J cs vs)(hk:∀c∈cs,isCell c=true)(h1:aM P t=some agg)(h2:aP P t=some s)(e:Mg agg off s cs k=.ok r) :
  ∃c u,k c=.ok r/\(part t ⟨vs⟩ off).run P w=.ok u w/\VR J c u:=by
 cases agg with
 |false =>
  obtain⟨c,g1,g2⟩:=wv (l:=cs) (n:=off) e;obtain⟨u,g3,g4⟩:=hv.get g1;have hi:off<vs.length:=(Ab.1 g3).1;have he:vs[off]=u:=(Ab.1 g3).2;exact⟨c,u,g2,by simp[part,dA h1,hi,he],g4⟩
 |true =>
  obtain⟨g1,g2⟩:=jx (off:=off) (n:=s) (l:=cs) e;refine⟨_,.agg ⟨(vs.drop off).take s⟩,g2,?_,((hv.drop off).take s).agg λc hc=>hk c (List.mem_of_mem_drop (List.mem_of_mem_take hc))⟩;have hle:off+s<=vs.length:=by rw[<-hv.1];exact g1
  simp[part,dA h1,run_sizeOf h2,List.extract_eq_take_drop,hle]
theorem aYT(H:HR P w0 J h nx w){t:TypeId}{x:Operand}{f s:Nat}{g:Bool}{ot:Nat×TypeId}(hf:AD P t f=some ot)(hs:aP P ot.2=some s)(ha:aM P ot.2=some g)(hT:XR J tm tmps (Op.operands (.field t x f)).toList)
  (e:pK (.fd g ot.1 s (aE P x)) tm h k=.ok r):∃v,k v=.ok r/\PG P w J tmps ds ⟨dst,.field t x f,ty,pos,AJ,BE⟩ v:=by
 simp only[pK] at e;obtain⟨c,e1,hc⟩:=opd (ds:=ds) (o:=⟨dst,.field t x f,ty,pos,AJ,BE⟩) H hT (by simp[Op.operands]) e;obtain⟨l,hl,e2⟩:=aBi e1;subst hl;obtain⟨vs,hv,GY,hk⟩:=hc.inv_agg;obtain⟨fs,fl,h1,h2,h3,h4⟩:=DJ hf;obtain⟨c',u,g1,g2,g3⟩:=xh (P:=P) (w:=w) GY hk ha hs e2;exact⟨c',g1,u,by simp[execOp,hv,Instr.field,run_underlying h1,h2,asAgg,h4,h3,g2],g3⟩
theorem aYR(H:HR P w0 J h nx w){x:Operand}{i:Nat}(hT:XR J tm tmps (Op.operands (.extract x i)).toList)(e:pK (.ex i (aE P x)) tm h k=.ok r) :
  ∃v,k v=.ok r/\PG P w J tmps ds ⟨dst,.extract x i,ty,pos,AJ,BE⟩ v:=by
 simp only[pK] at e;obtain⟨c,e1,hc⟩:=opd (ds:=ds) (o:=⟨dst,.extract x i,ty,pos,AJ,BE⟩) H hT (by simp[Op.operands]) e;generalize hg:ev tmps ds x=u at hc;cases c<;>simp only at e1<;>first|cases e1|skip
 obtain⟨vs,rfl,GY⟩:=hc.inv_tup;obtain⟨c',g1,g2⟩:=wv e1;obtain⟨u,g3,g4⟩:=GY.get g1;have hi:i<vs.length:=(Ab.1 g3).1;have he:vs[i]=u:=(Ab.1 g3).2;exact⟨c',g2,u,by simp[execOp,hg,Instr.extract,hi,he],g4⟩
theorem aCb{sz i:Nat}{v:V}{u:Value}(hv:VR J v u)(e:u3 sz v i k=.ok r):∃b off len cap c,u=.slice (some ⟨b,off,none⟩) len cap/\i<len/\k c=.ok r/\VR J c (.pointer (some ⟨b,off+i*sz,none⟩)):=by
 cases v<;>simp only[u3] at e<;>first|cases e|skip
 ·obtain⟨h1,e1⟩:=bP e
  rw[aF] at e1;cases hv with|sl _ _ _ _ b N h hc=>exact⟨_,_,_,_,_,rfl,dM h1,e1,.ptr _ _ _ _ h⟩
 ·obtain⟨h1,e1⟩:=bP e
  rw[aF] at e1;cases hv with|su _ _ _ _ b N cap h hc hr=>exact⟨_,_,_,_,_,rfl,dM h1,e1,.ptr _ _ _ _ h⟩
 ·rename_i x
  cases x<;>simp only[ui] at e<;>first|cases e|skip
  obtain⟨h1,e1⟩:=bP e;rw[aF] at e1;cases hv with|rsl _ _ _ b B cap h hc=>exact⟨_,_,_,_,_,rfl,dM h1,e1,by rw[Dc];exact .rptr _ _ _ _ h⟩
theorem aYU(H:HR P w0 J h nx w){t el:TypeId}{x i:Operand}{s:Nat}(hu:P.underlying t=some (.slice el))(hs:aP P el=some s)(hT:XR J tm tmps (Op.operands (.indexAddr t x i)).toList)(e:pK (.ia s (aE P x) (aE P i)) tm h k=.ok r) :
  ∃v,k v=.ok r/\PG P w J tmps ds ⟨dst,.indexAddr t x i,ty,pos,AJ,BE⟩ v:=by
 simp only[pK] at e;obtain⟨c,e1,hc⟩:=opd (ds:=ds) (o:=⟨dst,.indexAddr t x i,ty,pos,AJ,BE⟩) H hT (by simp[Op.operands]) e;obtain⟨d,e2,hd⟩:=opd (ds:=ds) (o:=⟨dst,.indexAddr t x i,ty,pos,AJ,BE⟩) H hT (by simp[Op.operands]) e1;obtain⟨kd,n,hn,e3⟩:=qW e2;subst hn;obtain⟨b,off,len,cap,c2,hv,h2,e4,h5⟩:=aCb hc e3;have hi:=hd.inv_int;refine⟨_,e4,.pointer (some ⟨b,off+n*s,none⟩),?_,h5⟩;simp[execOp,hv,hi,Instr.indexAt,asIntOf,run_underlying hu,h2,run_sizeOf hs,cE]
theorem aSV(H:HR P w0 J h nx w){t el:TypeId}{x i:Operand}{len s:Nat}(hu:P.underlying t=some (.array len el))(hs:aP P el=some s)(hT:XR J tm tmps (Op.operands (.indexAddr t x i)).toList)(e:pK (.iaa len s (aE P x) (aE P i)) tm h k=.ok r) :
  ∃v,k v=.ok r/\PG P w J tmps ds ⟨dst,.indexAddr t x i,ty,pos,AJ,BE⟩ v:=by
 simp only[pK] at e;obtain⟨c,e1,hc⟩:=opd (ds:=ds) (o:=⟨dst,.indexAddr t x i,ty,pos,AJ,BE⟩) H hT (by simp[Op.operands]) e;obtain⟨d,e2,hd⟩:=opd (ds:=ds) (o:=⟨dst,.indexAddr t x i,ty,pos,AJ,BE⟩) H hT (by simp[Op.operands]) e1;obtain⟨kd,n,hn,e3⟩:=qW e2;subst hn;obtain⟨o,a,ho,e4⟩:=zY e3;subst ho;obtain⟨h1,e5⟩:=bP e4;rw[aF] at e5;have h2:=dM h1;obtain⟨b,N,hv,hb⟩:=hc.inv_ptr;have hi:=hd.inv_int;refine⟨_,e5,.pointer (some ⟨b,a+n*s,none⟩),?_,.ptr _ _ _ _ hb⟩;simp[execOp,hv,hi,Instr.indexAt,asIntOf,run_underlying hu,Instr.sureAddr,h2,run_sizeOf hs,cE]
theorem aSX(H:HR P w0 J h nx w){t:TypeId}{x i:Operand}(hu:P.underlying t=some .string)(hT:XR J tm tmps (Op.operands (.index t x i)).toList)(e:pK (.ixs (aE P x) (aE P i)) tm h k=.ok r) :
  ∃v,k v=.ok r/\PG P w J tmps ds ⟨dst,.index t x i,ty,pos,AJ,BE⟩ v:=by
 simp only[pK] at e;obtain⟨c,e1,hc⟩:=opd (ds:=ds) (o:=⟨dst,.index t x i,ty,pos,AJ,BE⟩) H hT (by simp[Op.operands]) e;obtain⟨d,e2,hd⟩:=opd (ds:=ds) (o:=⟨dst,.index t x i,ty,pos,AJ,BE⟩) H hT (by simp[Op.operands]) e1;obtain⟨kd,j,hn,e3⟩:=qW e2;subst hn;obtain⟨l,n,ho,e4⟩:=qX e3;subst ho;obtain⟨h1,e5⟩:=bP e4;rw[aF] at e5;have h2:=dM h1;obtain⟨s,hv,hl,hp⟩:=hc.inv_str;have hi:=hd.inv_int;subst hl;rw[<-hp,nH,aAF s j h2] at e5
 have Lg:(⟨⟨s⟩⟩:ByteArray)[j]?=some s[j]:=by
  have BC:j<(⟨⟨s⟩⟩:ByteArray).size:=h2;rw[ByteArray.getElem?_lt' _ _ BC];rfl
 exact⟨_,e5,.int .u8 (s[j].toNat),by simp[execOp,hv,hi,Instr.index,asIntOf,run_underlying hu,Lg],.int _ _⟩
theorem aSW(H:HR P w0 J h nx w){t el:TypeId}{x i:Operand}{len s:Nat}{g:Bool}(hu:P.underlying t=some (.array len el))(hs:aP P el=some s)(ha:aM P el=some g)(hT:XR J tm tmps (Op.operands (.index t x i)).toList)
  (e:pK (.ixa g len s (aE P x) (aE P i)) tm h k=.ok r):∃v,k v=.ok r/\PG P w J tmps ds ⟨dst,.index t x i,ty,pos,AJ,BE⟩ v:=by
 simp only[pK] at e;obtain⟨c,e1,hc⟩:=opd (ds:=ds) (o:=⟨dst,.index t x i,ty,pos,AJ,BE⟩) H hT (by simp[Op.operands]) e;obtain⟨d,e2,hd⟩:=opd (ds:=ds) (o:=⟨dst,.index t x i,ty,pos,AJ,BE⟩) H hT (by simp[Op.operands]) e1;obtain⟨kd,j,hn,e3⟩:=qW e2;subst hn;obtain⟨l,ho,e4⟩:=aBi e3;subst ho;obtain⟨h1,e5⟩:=bP e4;rw[aF] at e5;have h2:=dM h1;obtain⟨vs,hv,GY,hk⟩:=hc.inv_agg;have hi:=hd.inv_int;obtain⟨c',u,g1,g2,g3⟩:=xh (P:=P) (w:=w) GY hk ha hs e5;exact⟨c',g1,u,by simp[execOp,hv,hi,Instr.index,asIntOf,run_underlying hu,h2,run_sizeOf hs,g2],g3⟩
end
section
open Go.AM (oneC overwrite aX aR run_underlying run_sizeOf dA aU aP aM aC aO AD DJ bO cE bytes_beq run_getObj iU)
variable {P:Program}{w0:Base}{w:World}{J:Rho}{h:T O}{nx:Q}{tm:T V}{tmps:Array Value}{ds:List Deferred}{k:V->Res}{r v:V}
variable {dst:Option Nat}{ty:TypeId}{pos:String}{AJ:Array Edge}{BE:Option (Nat×Bool)}
theorem zh{v:Value}(hb:kV (iM v)=true):VC (iM v) (ah (iM v)):=by
 cases v with
 |agg cs =>
  simp only[iM] at hb ⊢;cases he:(cs.toList.map iL).all kV with
  |false=>rw[he] at hb;cases hb
  |true=>exact .inl rfl
 |_ =>
  simp only[iM] at hb ⊢;have hc:=yS hb;refine .inr ⟨hc,?_⟩
  revert hc
  generalize iL _=c;intro hc;cases c<;>first|rfl|cases hc
theorem xW{t:TypeId}{z:V}(e:zeroV P t=some z):∃zv,(P.info? t).bind (·.zero)=some zv/\VR J z zv/\VC z (ah z):=by
 unfold zeroV at e;obtain⟨zv,h1,h2⟩:=dL e
 split at h2
 ·rename_i hb
  simp at h2;subst h2;exact⟨zv,h1,iO hb,zh hb⟩
 ·cases h2
theorem qR{t:TypeId}{z:List V}(e:oD P t=some z):∃zv,(P.info? t).bind (·.zero)=some zv/\aP P t=some z.length/\VRs J z zv.cells.toList/\(∀c∈z,isCell c=true)/\∀u∈zv.cells.toList,oneC u=true:=by
 unfold oD at e;obtain⟨v,h1,h2⟩:=dL e;obtain⟨s,h3,h4⟩:=dL h2
 split at h4
 ·rename_i hl
  simp at h4;subst h4;obtain⟨zv,g1,g2,g3⟩:=xW (J:=J) h1;obtain⟨g4,g5,g6⟩:=g2.cells g3;exact⟨zv,g1,by rw[Aa hl];exact h3,g4,g5,g6⟩
 ·cases h4
theorem VRs.over{zs cs:List V}{zv cv:List Value}{off:Nat}(h1:VRs J zs zv)(h2:VRs J cs cv):VRs J (overwrite zs off cs) (overwrite zv off cv):=by
 unfold overwrite;rw[h2.1];exact((h1.take off).append h2).append (h1.drop _)
theorem zJ{zs cs:List V}{off:Nat}(h1:∀c∈zs,isCell c=true)(h2:∀c∈cs,isCell c=true):∀c∈overwrite zs off cs,isCell c=true:=λc hc=>by
 unfold overwrite at hc;simp only[Bn] at hc;rcases hc with(hc|hc)|hc
 ·exact h1 c (List.mem_of_mem_take hc)
 ·exact h2 c hc
 ·exact h1 c (List.mem_of_mem_drop hc)
theorem wQ:∀{l new:List V}{off:Nat}{k:List V->Res},n8 l off new k=.ok r->off+new.length<=l.length/\k (overwrite l off new)=.ok r
 |[],new,off,k,e=>by
  cases off with
  |zero=>cases new with
   |nil=>exact⟨by simp,e⟩
   |cons v vs=>cases e
  |succ off=>cases e
 |x::l,new,off,k,e=>by
  cases off with
  |zero=>cases new with
   |nil=>exact⟨by simp,by simpa[overwrite,n8] using e⟩
   |cons v vs =>
    obtain⟨h1,h2⟩:=wQ (l:=l) (new:=vs) (off:=0) e;exact⟨by simp at h1 ⊢;omega,by simpa[overwrite,Nat.add_comm 1] using h2⟩
  |succ off =>
   obtain⟨h1,h2⟩:=wQ (l:=l) (new:=new) (off:=off) e;refine⟨by simp;omega,?_⟩
   have:overwrite (x::l) (off+1) new=x::overwrite l off new:=by
    unfold overwrite;rw[show off+1+new.length=off+new.length+1 by omega];simp
   rw[this];exact h2
theorem th(H:HR P w0 J h nx w){place:Nat->Option (Nat×Nat)}:∀{parts:List (Nat×Operand)}{ps:List (Nat×Nat×X)}{z:List V}{zs:List Value}{k:List V->Res},oQ P place parts=some ps->XR J tm tmps (parts.map (·.2))->VRs J z zs->(∀c∈z,isCell c=true) ->
  aa tm ps z k=.ok r->∃cs vs,k cs=.ok r/\Instr.fill place ⟨zs⟩ (parts.map λp=>(p.1,ev tmps ds p.2))=some ⟨vs⟩/\VRs J cs vs/\∀c∈cs,isCell c=true
 |[],ps,z,zs,k,hp,hT,hz,hk,e=>by
  simp[oQ] at hp;subst hp;exact⟨z,zs,e,rfl,hz,hk⟩
 |(i,x)::parts,ps,z,zs,k,hp,hT,hz,hk,e=>by
  simp only[oQ] at hp;obtain⟨p,h1,hp⟩:=dL hp;obtain⟨l,h2,hp⟩:=mF hp;subst hp;simp only[aa] at e;obtain⟨v,h3,e⟩:=fA e;have hv:=hY (ds:=ds) H.glob (hT.sub (λy hy=>by simp at hy;simp[hy])) h3;obtain⟨c,hc,e⟩:=rB e;rw[cJ] at e;obtain⟨hl,e⟩:=bP e;obtain⟨h4,e⟩:=wQ e;obtain⟨g1,g2,g3⟩:=hv.cells hc;obtain⟨cs,vs,f1,f2,f3,f4⟩:=th H h2 (hT.sub (λy hy=>by simp at hy ⊢;exact .inr hy)) (hz.over (off:=p.1) g1) (zJ hk g2) e;refine⟨cs,vs,f1,?_,f3,f4⟩
  have BC:(ev tmps ds x).cells.size=p.2:=by
   have:=g1.1
   rw[Aa hl] at this;simpa using this.symm
  have hzl:p.1+(ev tmps ds x).cells.size<=zs.length:=by
   rw[<-hz.1,BC,<-Aa hl];exact h4
  simp only[Bb,Instr.fill,h1];rw[Bc (by simp[BC];rw[<-BC];exact hzl),iU _ _ _ (by simpa using hzl)];exact f2
theorem aST(H:HR P w0 J h nx w){t:TypeId}{parts:Array (Nat×Operand)}{z:List V}{ps:List (Nat×Nat×X)}(hz:oD P t=some z)(hp:partsOf P t parts.toList=some ps)(hT:XR J tm tmps (Op.operands (.build t parts)).toList)
  (e:pK (.bld z ps) tm h k=.ok r):∃v,k v=.ok r/\PG P w J tmps ds ⟨dst,.build t parts,ty,pos,AJ,BE⟩ v:=by
 simp only[pK] at e;obtain⟨zv,h1,h2,h3,h4,h5⟩:=qR (J:=J) hz;have NJ:XR J tm tmps (parts.toList.map (·.2)):=hT.sub (λx hx=>by simpa[Op.operands] using hx)
 have fin:∀{place:Nat->Option (Nat×Nat)},oQ P place parts.toList=some ps->(∀l,P.built t l=Instr.fill place zv.cells l)->∃v,k v=.ok r/\PG P w J tmps ds ⟨dst,.build t parts,ty,pos,AJ,BE⟩ v:=λ{place} Mx hb=>by
  obtain⟨cs,vs,f1,f2,f3,f4⟩:=th (ds:=ds) H Mx NJ h3 h4 e;refine⟨_,f1,.agg ⟨vs⟩,?_,f3.agg f4⟩
  have:=run_build (P:=P) w t (parts.map λ(i,x)=>(i,ev tmps ds x)) ⟨vs⟩ (by
   rw[hb];simp only[Fo]
   have:(⟨zv.cells.toList⟩:Array Value)=zv.cells:=by simp
   rw[<-this];exact f2)
  simp[execOp];simp at this;simp[this]
 unfold partsOf at hp
 split at hp
 ·rename_i fs hu
  obtain⟨pl,Mx,hp⟩:=dL hp;refine fin hp λl=>?_
  obtain⟨it,hi,K8⟩:=dL h1;simp[Program.built,hi,hu,K8,Mx]
 ·rename_i n el hu
  obtain⟨s,hs,hp⟩:=dL hp;refine fin hp λl=>?_
  obtain⟨it,hi,K8⟩:=dL h1;obtain⟨ie,Jx,hs⟩:=mF hs;simp[Program.built,hi,hu,K8,Jx,hs]
 ·cases hp
theorem uB(H:HR P w0 J h nx w){lo:Option Operand}{d:Nat}{k:Nat->Res}(hT:XR J tm tmps lo.toList)(e:wP (lo.map (aE P)) tm d k=.ok r) :
  ∃n,k n=.ok r/\((lo=none/\n=d)\/∃y kd,lo=some y/\ev tmps ds y=.int kd (n:Int)):=by
 cases lo with
 |none=>exact⟨d,e,.inl ⟨rfl,rfl⟩⟩
 |some y =>
  simp only[Bw,wP] at e;obtain⟨c,h1,e⟩:=fA e;have hc:=hY (ds:=ds) H.glob (hT.sub (by simp)) h1;obtain⟨kd,n,hn,e⟩:=qW e;subst hn;exact⟨n,e,.inr ⟨y,kd,rfl,hc.inv_int⟩⟩
theorem jF{isS:Bool}{len cap:Nat}{lo hi:Option Operand}{l m:Nat}(hl:(lo=none/\l=0)\/∃y kd,lo=some y/\ev tmps ds y=.int kd (l:Int))(hh:(hi=none/\m=len)\/∃y kd,hi=some y/\ev tmps ds y=.int kd (m:Int))
  (h1:l<=m) (h2:m<=cap):(Instr.sliceBounds isS len cap (lo.map (ev tmps ds)) (hi.map (ev tmps ds)) none).run P w=.ok (l,m,cap) w:=by
 rcases hl with⟨rfl,rfl⟩|⟨y,kd,rfl,hy⟩<;>rcases hh with⟨rfl,rfl⟩|⟨z,Hc,rfl,hz⟩
 ·simp[Instr.sliceBounds]
 ·simp[Instr.sliceBounds,hz,run_sliceBound,h2]
 ·simp[Instr.sliceBounds,hy,run_sliceBound,h1]
 ·simp[Instr.sliceBounds,hy,hz,run_sliceBound,h1,h2]
theorem mO{len cap:Nat}{lo:Option Operand}{l m x:Nat}{z u:Operand}{kz ku:IntKind}(hl:(lo=none/\l=0)\/∃y kd,lo=some y/\ev tmps ds y=.int kd (l:Int))(hz:ev tmps ds z=.int kz (m:Int))(hu:ev tmps ds u=.int ku (x:Int))
  (h1:l<=m) (h2:m<=x) (h3:x<=cap):(Instr.sliceBounds true len cap (lo.map (ev tmps ds)) (some (ev tmps ds z)) (some (ev tmps ds u))).run P w=.ok (l,m,x) w:=by
 rcases hl with⟨rfl,rfl⟩|⟨y,kd,rfl,hy⟩
 ·simp[Instr.sliceBounds,hz,hu,run_sliceBound,h2,h3]
 ·simp[Instr.sliceBounds,hy,hz,hu,run_sliceBound,h1,h2,h3]
theorem aS5(H:HR P w0 J h nx w){t:TypeId}{x:Operand}{lo hi:Option Operand}(hu:P.underlying t=some .string)(hT:XR J tm tmps (Op.operands (.slice t x lo hi none)).toList)(e:pK (.slS (aE P x) (lo.map (aE P)) (hi.map (aE P))) tm h k=.ok r) :
  ∃v,k v=.ok r/\PG P w J tmps ds ⟨dst,.slice t x lo hi none,ty,pos,AJ,BE⟩ v:=by
 simp only[pK] at e;obtain⟨c,e1,hc⟩:=opd (ds:=ds) (o:=⟨dst,.slice t x lo hi none,ty,pos,AJ,BE⟩) H hT (by simp[Op.operands]) e;obtain⟨l,n,ho,e2⟩:=qX e1;subst ho;obtain⟨a,e3,ha⟩:=uB (ds:=ds) H (hT.sub (λy hy=>by simp[Op.operands];simp at hy;simp[hy])) e2;obtain⟨b,e4,hb⟩:=uB (ds:=ds) H (hT.sub (λy hy=>by simp[Op.operands];simp at hy;simp[hy])) e3;obtain⟨hg,e5⟩:=bP e4;rw[aF,aF] at e5;rw[Ac] at hg;have g1:=Ad hg.1;have g2:=Ad hg.2;obtain⟨s,hv,hl,hp⟩:=hc.inv_str;subst hl;have GN:=jF (P:=P) (w:=w) (isS:=false) (len:=s.length) (cap:=s.length) ha hb g1 g2;have BC:(⟨⟨s⟩⟩:ByteArray).size=s.length:=rfl
 have hex:(⟨⟨s⟩⟩:ByteArray).extract a b=⟨⟨(s.drop a).take (b-a)⟩⟩:=by
  have:=ByteArray.extract_mk s a b
  rw[show(⟨⟨s⟩⟩:ByteArray)=ByteArray.mk s.toArray from rfl,this]
 refine⟨_,e5,.string ⟨⟨(s.drop a).take (b-a)⟩⟩,?_,.str _ _ _ (by simp;omega) ?_⟩
 ·simp only[ev] at GN hv
  simp[execOp,ev,hv,Instr.sliceAt,Instr.slice,run_underlying hu,BC,GN,hex]
 ·rw[(rR _ _ (by simp;omega)).1,(rR _ _ (by omega)).2,nH,nH,hp]
theorem tz{sz lo hi:Nat}{mx:Option Nat}{v:V}{u:Value}(hv:VR J v u)(e:yA sz v lo hi mx k=.ok r) :
  ∃c a len cap,k c=.ok r/\u=.slice a len cap/\lo<=hi/\hi<=mx.getD cap/\mx.getD cap<=cap/\VR J c (.slice (if mx.getD cap=lo then a else a.map (·.add (lo*sz))) (hi-lo) (mx.getD cap-lo)):=by
 cases v<;>simp only[yA] at e<;>first|cases e|skip
 ·obtain⟨hg,e⟩:=bP e
  cases hv;rw[Ac,Ac] at hg;have h1:=Aa hg.1.1;have h2:=Aa hg.1.2;subst h1;subst h2;cases mx with
  |none=>exact⟨_,_,_,_,e,rfl,by simp,by simp,by simp,by simpa using .nils⟩
  |some m =>
   have h3:=Aa hg.2;subst h3;exact⟨_,_,_,_,e,rfl,by simp,by simp,by simp,by simpa using .nils⟩
 ·rename_i o off len cap
  cases hv with
  |sl _ _ _ _ b N hb hc =>
  cases mx with
  |none =>
   simp only at e;obtain⟨hg,e⟩:=bP e;rw[Ac] at hg;have g1:=Ad hg.1;have g2:=Ad hg.2;rw[aF,aF] at e
   split at e
   ·rename_i he
    have he:=Aa he;exact⟨_,_,_,_,e,rfl,g1,g2,by simp,by simp only[Ef,Bu he.symm];exact .sl _ _ _ _ _ _ hb (by omega)⟩
   ·rename_i he
    rw[aF] at e;have BD:¬cap=lo:=λh=>by rw[h,Cj] at he;cases he
    exact⟨_,_,_,_,e,rfl,g1,g2,by simp,by simp only[Ef,Bc BD,Bw,cE];exact .sl _ _ _ _ _ _ hb (by omega)⟩
  |some m =>
   simp only at e;obtain⟨hg,e⟩:=bP e;rw[Ac,Ac] at hg;have g1:=Ad hg.1.1;have g2:=Ad hg.1.2;have g3:=Ad hg.2;rw[aF,aF] at e
   split at e
   ·rename_i he
    have he:=Aa he;exact⟨_,_,_,_,e,rfl,g1,g2,g3,by simp only[Ci,Bu he.symm];exact .sl _ _ _ _ _ _ hb (by omega)⟩
   ·rename_i he
    rw[aF] at e;have BD:¬m=lo:=λh=>by rw[h,Cj] at he;cases he
    exact⟨_,_,_,_,e,rfl,g1,g2,g3,by simp only[Ci,Bc BD,Bw,cE];exact .sl _ _ _ _ _ _ hb (by omega)⟩
 ·rename_i o off len GG
  cases hv with
  |su _ _ _ _ b N cap hb hc hr =>
  cases mx with
  |none =>
   simp only at e;obtain⟨hg,e1⟩:=bP e;clear e;rw[Ac,Ac] at hg;have g0:=Aa hg.1.1;subst g0;have e:=e1;clear e1;have g1:=Ad hg.1.2;have g2:=Ad hg.2
   split at e
   ·rename_i he
    have he:=dM he;rw[aF,aF] at e;refine⟨_,_,_,_,e,rfl,g1,Bg g2 hc,by simp,?_⟩;simp only[Ef,Bc (show ¬cap=lo by omega),Bw,cE];refine .su _ _ _ _ _ _ _ hb (by omega) ?_
    have:lo*sz+(cap-lo)*sz=cap*sz:=by rw[<-Cr,Nat.add_sub_cancel' (by omega)]
    omega
   ·rename_i he
    have he:¬lo<len:=λh=>by rw[show Nat.blt lo len=true by simpa[Ct] using h] at he;cases he
    split at e
    ·rename_i h0
     have h0:=Aa h0;subst h0;have e:=e;refine⟨_,_,_,_,e,rfl,g1,Bg g2 hc,by simp,?_⟩
     have:hi=0:=by omega
     subst this;have hl:len=0:=by omega
     subst hl;simp only[Ef,Fi,Bw,cE,Aw,ite_self,Gh];exact .su _ _ _ _ _ _ _ hb (by omega) (by omega)
    ·refine⟨_,_,_,_,e,rfl,g1,Bg g2 hc,by simp,?_⟩
     rw[show hi-lo=0 by omega];split
     ·exact .se _ _
     ·exact .se _ _
  |some m =>
   simp only at e;obtain⟨hg,e⟩:=bP e;rw[Ac,Ac] at hg;have g1:=Ad hg.1.1;have g2:=Ad hg.1.2;have g3:=Ad hg.2;rw[aF,aF] at e
   split at e
   ·rename_i he
    have he:=Aa he;exact⟨_,_,_,_,e,rfl,g1,g2,Bg g3 hc,by simp only[Ci,Bu he.symm];exact .sl _ _ _ _ _ _ hb (by omega)⟩
   ·rename_i he
    rw[aF] at e;have BD:¬m=lo:=λh=>by rw[h,Cj] at he;cases he
    exact⟨_,_,_,_,e,rfl,g1,g2,Bg g3 hc,by simp only[Ci,Bc BD,Bw,cE];exact .sl _ _ _ _ _ _ hb (by omega)⟩
 ·cases hv with
  |se a cap =>
  cases mx with
  |none =>
   simp only at e;obtain⟨hg,e⟩:=bP e;rw[Ac] at hg;have h1:=Aa hg.1;have h2:=Aa hg.2;subst h1;subst h2;refine⟨_,_,_,_,e,rfl,by simp,by simp,by simp,?_⟩;split
   ·exact .se _ _
   ·exact .se _ _
  |some m=>cases e
 ·rename_i x
  cases x<;>simp only[zm] at e<;>first|cases e|skip
  ·cases hv with
   |rsl o off len b B cap hb hc =>
   cases mx with
   |none =>
    simp only at e;obtain⟨hg,e2⟩:=bP e;clear e;rw[Ac] at hg;have g1:=Aa hg.1;have g2:=Ad hg.2;subst g1
    split at e2
    ·refine⟨_,_,_,_,e2,rfl,Af _,Di _,by simp,?_⟩
     exact .re _ _
    refine⟨_,_,_,_,e2,rfl,Di _,Bg g2 hc,by simp,?_⟩;simp only[Ef,Fi,Bw,cE,Aw,ite_self,Gh];exact .rsl _ _ _ _ _ _ hb (Bg g2 hc)
   |some m =>
    simp only at e;obtain⟨hg,e2⟩:=bP e;clear e;rw[Ac,Ac] at hg;have g1:=Aa hg.1.1;have g2:=Aa hg.1.2;have g3:=Aa hg.2;subst g1 g2 g3;exact⟨_,_,_,_,e2,rfl,Af _,Af _,Di _,.rz _⟩
  ·cases hv with
   |re a cap =>
   cases mx with
   |none =>
    simp only at e;obtain⟨hg,e2⟩:=bP e;clear e;rw[Ac] at hg;have g1:=Aa hg.1;have g2:=Aa hg.2;subst g1 g2;exact⟨_,_,_,_,e2,rfl,Af _,Di _,by simp,.re _ _⟩
   |some m =>
    simp only at e;obtain⟨hg,e2⟩:=bP e;clear e;rw[Ac,Ac] at hg;have g1:=Aa hg.1.1;have g2:=Aa hg.1.2;have g3:=Aa hg.2;subst g1 g2 g3;exact⟨_,_,_,_,e2,rfl,Af _,Af _,Di _,.rz _⟩
theorem vo{v:V}{u:Value}{k:Nat->Res}(hv:VR J v u)(e:pj v k=.ok r):∃a len cap,u=.slice a len cap/\k len=.ok r/\len<=cap:=by
 cases hv<;>simp only[pj,Ua] at e<;>first|cases e|exact⟨_,_,_,rfl,e,by simp⟩|exact⟨_,_,_,rfl,e,by assumption⟩
theorem aS4(H:HR P w0 J h nx w){t el:TypeId}{sz:Nat}{x:Operand}{lo hi mx:Option Operand}(hu:P.underlying t=some (.slice el))(hs:aP P el=some sz)(TG:(mx.isSome&&hi.isNone)=false)(hT:XR J tm tmps (Op.operands (.slice t x lo hi mx)).toList)
  (e:pK (.slL sz (aE P x) (lo.map (aE P)) (hi.map (aE P)) (mx.map (aE P))) tm h k=.ok r):∃v,k v=.ok r/\PG P w J tmps ds ⟨dst,.slice t x lo hi mx,ty,pos,AJ,BE⟩ v:=by
 simp only[pK] at e;obtain⟨c,e1,hc⟩:=opd (ds:=ds) (o:=⟨dst,.slice t x lo hi mx,ty,pos,AJ,BE⟩) H hT (by simp[Op.operands]) e;obtain⟨a,len,cap,hv,e2,Oa⟩:=vo hc e1;obtain⟨l,e3,hl⟩:=uB (ds:=ds) H (hT.sub (λy hy=>by simp[Op.operands];simp at hy;simp[hy])) e2;obtain⟨b,e4,hb⟩:=uB (ds:=ds) H (hT.sub (λy hy=>by simp[Op.operands];simp at hy;simp[hy])) e3;cases mx with
 |none =>
  simp only[Option.map_none] at e4;obtain⟨c',a',K4,LA,g1,g2,g3,g4,g5,g6⟩:=tz hc e4;rw[hv] at g2;simp at g2;obtain⟨rfl,rfl,rfl⟩:=g2;have GN:=jF (P:=P) (w:=w) (isS:=true) (len:=len) (cap:=cap) hl hb g3 (by simpa using g4);refine⟨c',g1,_,?_,g6⟩;simp only[ev] at GN hv;simp[execOp,ev,hv,Instr.sliceAt,Instr.slice,run_underlying hu,GN,run_sizeOf hs]
 |some u =>
  simp only[Bw] at e4;obtain⟨c2,h2,e5⟩:=fA e4;have CV:=hY (ds:=ds) H.glob (hT.sub (λy hy=>by simp[Op.operands];simp at hy;simp[hy])) h2;obtain⟨ku,m,hm,e6⟩:=qW e5;subst hm;rcases hb with⟨rfl,_⟩|⟨z,kz,rfl,hz⟩
  ·simp at TG
  ·obtain⟨c',a',K4,LA,g1,g2,g3,g4,g5,g6⟩:=tz hc e6
   rw[hv] at g2;simp at g2;obtain⟨rfl,rfl,rfl⟩:=g2;have GN:=mO (P:=P) (w:=w) (len:=len) (cap:=cap) hl hz CV.inv_int g3 (by simpa using g4) (by simpa using g5);refine⟨c',g1,_,?_,g6⟩;simp only[ev] at GN hv;simp[execOp,ev,hv,Instr.sliceAt,Instr.slice,run_underlying hu,GN,run_sizeOf hs]
end
end Go.CM
end
