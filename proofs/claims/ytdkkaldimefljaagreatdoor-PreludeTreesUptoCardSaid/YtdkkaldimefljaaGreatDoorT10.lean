import Derived.Test.YtdkkaldimefljaaGreatDoorT09
import Derived.Test.YtdkkaldimefljaaGreatDoorC18
set_option linter.all false
section
namespace Go.AM
variable {P:Program} {ans:FuncId→Ann} {an:Ann} {w:World} {B0:Nat} {Ψ:HT} {ρ:List Nat} {ow:Own} {drawn:Bool} {cf:aO} {tm:List Slot} {R:Type}
theorem aIE {rid i:Nat} {ops:Array Oper} {kp:AVal→RS→Option R} {kn:RS→Option R} {o:Oper} {l:List Nat} {rs rs':RS} {x:Option R} (ho:ops[i]?=some o) (h:∀ next:RS→Option R,iK P ans an drawn cf tm rid ops kp o i rs next=next rs') (k:iL P ans an drawn cf tm rid ops kp kn l rs'=x):iL P ans an drawn cf tm rid ops kp kn (i::l) rs=x:=by
 simp only[iL,ho];rw[h];exact k
end Go.AM
namespace Go.Proofs.YtdkkaldimefljaaGreatDoor
open Go.AM Go.RowKit
variable [Aps]
set_option maxRecDepth 100000
set_option maxHeartbeats 8000000
theorem s56 (nm:List UInt8) (xs:List AVal) (r:VaD):∃ sc,(∀ (kp:AVal→RS→Option (bM×St)) (kn:RS→Option (bM×St)),iL Tryz.prog ans (ans 18) false CF [.val (.str nm),.val (.slice xs),.val (.loc 0 0),.val (.loc 1 0),.val (.int .i64 0),.dead,.val (.bool false),.dead] (aCJ p5) o5 kp kn [5,6] ⟨[(20,.val r.enc)],⟨[zV,zE],0⟩⟩=kn ⟨sc,⟨[zV,zE],0⟩⟩) ∧
  commit (ans 18).keep [.val (.str nm),.val (.slice xs),.val (.loc 0 0),.val (.loc 1 0),.val (.int .i64 0),.dead,.val (.bool false),.dead] sc=[.val (.str nm),.val (.slice xs),.val (.loc 0 0),.val (.loc 1 0),.val (.int .i64 0),.box (aS r),.val (.bool false),.dead]:=by
 rw[VaD.enc_eq r];simp only[aS];refine ⟨[(7,.box [.val (.str r.con),.val (.int .i64 r.num),.val (.slice (r.args.map VaD.enc))]),(7,.box [.val (.str []),.val (.int .i64 0),.own 3 []]),(20,.val (.agg [.str r.con,.int .i64 r.num,.slice (r.args.map VaD.enc)]))],fun kp kn=>?_,?_⟩
 ·refine aIE (o:=op5 5) (rs':=⟨[(7,.box [.val (.str []),.val (.int .i64 0),.own 3 []]),(20,.val (.agg [.str r.con,.int .i64 r.num,.slice (r.args.map VaD.enc)]))],⟨[zV,zE],0⟩⟩) (py (by omega)) (fun next=>?_) ?_
  rotate_left
  ·refine aIE (o:=op5 6) (rs':=⟨[(7,.box [.val (.str r.con),.val (.int .i64 r.num),.val (.slice (r.args.map VaD.enc))]),(7,.box [.val (.str []),.val (.int .i64 0),.own 3 []]),(20,.val (.agg [.str r.con,.int .i64 r.num,.slice (r.args.map VaD.enc)]))],⟨[zV,zE],0⟩⟩) (py (by omega)) (fun next=>?_) ?_
   rotate_left
   ·rfl
   ·show iK _ _ _ _ _ _ _ _ _ ⟨_,.store _ _ _,_,_,_,_⟩ _ _ _=_
    simp only[go_sem]
  ·show iK _ _ _ _ _ _ _ _ _ ⟨_,.alloc _,_,_,_,_⟩ _ _ _=_
   simp only[go_sem];rfl
 ·simp only[go_sem]
end Go.Proofs.YtdkkaldimefljaaGreatDoor
end
section
namespace Go.AM
open Go.RowKit
variable {P:Program} {w:World} {b:Frame} {tm:Array Value} {ds:List Deferred} {k:List Item} {cs:List Frame} {ops:Array Oper} {i:Nat} {rest:List Nat} {o:Oper} {w':World} {d:Option Nat} {op:Op}
theorem vY {f:FuncId} {args:Array Value} {v:Value} {w1:World} (ho:ops[i]?=some o) (hI:Is o d op) (hd:∀ c,op≠.defer c) (hr:(execOp (⟨tm,ds⟩:Act).eval ⟨d,op,o.type,o.pos,o.after,none⟩).run P w=.ok (.enter f args) w')
  (S:Steps P (lone (Frame.enter P f args .normal) (b.atR ⟨tm,ds⟩ (.inRegion ops (i::rest)::k)::cs) w') (lone ((b.atR ⟨tm,ds⟩ (.inRegion ops (i::rest)::k)).finish v) cs w1)) :
  Steps P (lone (b.atR ⟨tm,ds⟩ (.inRegion ops (i::rest)::k)) cs w) (lone (b.atR ((⟨tm,ds⟩:Act).put d v) (.inRegion ops rest::k)) cs w1):=by
 have h1:(execOp (⟨tm,ds⟩:Act).eval o).run P w=.ok (.enter f args) w':=by rw[hI.eq];exact hr
 have h2:=Steps.one (jL (b:=b) (a:=⟨tm,ds⟩) (k:=k) (cs:=cs) (rest:=rest) ho (by unfold Region.wanted;rw[hI.gd]) (by rw[hI.op];exact hd) h1);rw[Frame.finish_atR,ho] at S;simp only[Option.bind_some,hI.dst] at S;exact h2.trans S
end Go.AM
namespace Go.Proofs.YtdkkaldimefljaaGreatDoor
open Go.AM Go.RowKit
variable [Aps]
set_option maxRecDepth 100000
set_option maxHeartbeats 8000000
def aCR (m:Bool) (xs:List AVal):List AVal:=match m with
 |true=>[.agg [],.slice xs]
 |false=>[.slice xs]
abbrev tmA (nm:List UInt8) (xs:List AVal) (s:Slot):List Slot:=[.val (.str nm),.val (.slice xs),.val (.loc 0 0),.val (.loc 1 0),.val (.int .i64 0),s,.val (.bool false),.dead]
theorem aK5 (E:∀ B0,Env Tryz.prog ans B0 jS) {nm:List UInt8} {xs:List AVal} {r:VaD} {g:Nat} {m:Bool} (hg:CM.lookTab nm.length (CM.packL nm) CM.fnTab=some (g,m)) (hx:lok 0 (.slice xs)=true) (hp:PureOK Tryz.prog g (aCR m xs) r.enc)
  {B0:Nat} {w:World} {Ψ:HT} {ρ:List Nat} {ow:Own} {tmps:Array Value} {ds:List Deferred} {b:Frame} {cs:List Frame} {items:List Item} (h:At Tryz.prog ans 18 B0 w Ψ ρ ow ⟨tmA nm xs .dead,⟨[zV,zE],0⟩⟩ tmps) :
  ∃ w' Ψ' ρ' ow' tmps',At Tryz.prog ans 18 B0 w' Ψ' ρ' ow' ⟨tmA nm xs (.box (aS r)),⟨[zV,zE],0⟩⟩ tmps'∧Fr w Ψ ow w' Ψ' ow'∧pre ρ ρ'∧Steps Tryz.prog (lone (b.atR ⟨tmps,ds⟩ (.code p5::items)) cs w) (lone (b.atR ⟨tmps',ds⟩ items) cs w'):=by
 have hcf:lS Tryz.prog ans B0 CF:=vk (E B0);have nt:(ans 18).nt=33:=by rw[nB]
 have sz:∀ {w Ψ ρ ow st tmps},At Tryz.prog ans 18 B0 w Ψ ρ ow st tmps→tmps.size=33:=fun h=>h.rel.size.trans nt
 have SR:=Steps.one (stepR_region (P:=Tryz.prog) (b:=b) (a:=⟨tmps,ds⟩) (k:=items) (cs:=cs) (w:=w) (id:=aCJ p5) (ops:=o5));rw[aAt] at SR;rw[p5E];obtain ⟨w1,bm,ents,cl,S0,hm,hT,hz,hb,ho,ht,hout⟩:=CM.call28 w h.rel.wsat.size8 (b.atR ⟨tmps,ds⟩ (.inRegion o5 [0,1,2,3,4,5,6]::items)) cs;have hbel:Below w.heap.size w w1:=⟨ho,ht,hout,hz,hb⟩
 have F1:=oS (Ψ:=Ψ) hbel;have W1:=jA h.rel.wsat hbel;have hn28:=names 28 Tryz.f28 Tryz.func28 (by kernel_rfl)
 have hb28:¬ Tryz.f28.body=none:=by
  have hs:Tryz.f28.body.isSome=true:=by kernel_rfl
  intro hn;rw[hn] at hs;cases hs
 have T0:=vY (P:=Tryz.prog) (w:=w) (w':=w) (b:=b) (ds:=ds) (k:=items) (py (by omega)) i0 (fun c e=>by cases e) (by simp [execOp,resolve,Deferred.ofValue,invoke,callFunc,Act.eval,Tryz.func28,hn28,hb28,go_sem]) S0;have A1:=pJ (h.fr F1 W1) 16 (.map (some bm)) (by rw[nt];omega) (by rw[nB];rfl);generalize htm1:tmps.setIfInBounds 16 (.map (some bm))=tm1 at A1;have T1:=iS (P:=Tryz.prog) (w':=w1) (b:=b) (tm:=tm1) (ds:=ds) (k:=items) (cs:=cs) (rest:=[2,3,4,5,6]) (v:=tm1.getD 0 undef) (py (i:=1) (by omega)) i1 (fun c e=>by cases e) rfl;have A2:=pJ A1 17 (tm1.getD 0 undef) (by rw[nt];omega) (by rw[nB];rfl)
 have e16:(tm1.setIfInBounds 17 (tm1.getD 0 undef)).getD 16 undef=.map (some bm):=by
  rw[cE _ _ _ _ (by rw[sz A1];omega),if_neg (by omega),←htm1,cE _ _ _ _ (by rw[sz h];omega),if_pos rfl]
 have e17:(tm1.setIfInBounds 17 (tm1.getD 0 undef)).getD 17 undef=.string ⟨⟨nm⟩⟩:=by
  rw[cE _ _ _ _ (by rw[sz A1];omega),if_pos rfl]
  have:=A1.rel.slots 0
  rw[nB] at this;generalize tm1.getD 0 undef=u at this;cases this with
  |val _ _ h=>cases h;rfl
 generalize htm2:tm1.setIfInBounds 17 (tm1.getD 0 undef)=tm2 at A2 e16 e17;have hl:=CM.lookup_tab (P:=Tryz.prog) Tryz.underlying71 Tryz.underlying9 hm hT hg
 have T2:=iS (P:=Tryz.prog) (w':=w1) (b:=b) (tm:=tm2) (ds:=ds) (k:=items) (cs:=cs) (rest:=[3,4,5,6]) (v:=CM.fnU g m) (py (i:=2) (by omega)) i2 (fun c e=>by cases e) (by
  have h1:(⟨tm2,ds⟩:Act).eval (.tmp 16)=.map (some bm):=e16;have h2:(⟨tm2,ds⟩:Act).eval (.tmp 17)=.string ⟨⟨nm⟩⟩:=e17;simp only[execOp,h1,h2,Sem.run_bind];rw[hl];rfl)
 have A3:=pJ A2 18 (CM.fnU g m) (by rw[nt];omega) (by rw[nB];rfl);have e18:(tm2.setIfInBounds 18 (CM.fnU g m)).getD 18 undef=CM.fnU g m:=by rw[cE _ _ _ _ (by rw[sz A2];omega),if_pos rfl]
 generalize htm3:tm2.setIfInBounds 18 (CM.fnU g m)=tm3 at A3 e18;have T3:=iS (P:=Tryz.prog) (w':=w1) (b:=b) (tm:=tm3) (ds:=ds) (k:=items) (cs:=cs) (rest:=[4,5,6]) (v:=tm3.getD 1 undef) (py (i:=3) (by omega)) i3 (fun c e=>by cases e) rfl;have A4:=pJ A3 19 (tm3.getD 1 undef) (by rw[nt];omega) (by rw[nB];rfl);have e18':(tm3.setIfInBounds 19 (tm3.getD 1 undef)).getD 18 undef=CM.fnU g m:=by rw[cE _ _ _ _ (by rw[sz A3];omega),if_neg (by omega),e18]
 have e19:(tm3.setIfInBounds 19 (tm3.getD 1 undef)).getD 19 undef=tm3.getD 1 undef:=by rw[cE _ _ _ _ (by rw[sz A3];omega),if_pos rfl]
 have hxs:VRel Ψ [] (.slice xs) (tm3.getD 1 undef):=by
  have:=A3.rel.slots 1
  rw[nB] at this;generalize tm3.getD 1 undef=u at this;cases this with
  |val _ _ h=>exact h.lok hx
 generalize tm3.getD 1 undef=vx at e19 hxs T3 A4 e18';generalize htm4:tm3.setIfInBounds 19 vx=tm4 at A4 e18' e19
 obtain ⟨w2,Ψ2,v,F2,W2,hv,S4⟩:=hp.2 w1 Ψ (match m with|true=>#[.agg #[],vx]|false=>#[vx]) W1 (by cases m <;> rfl) (fun i a ha=>by
  cases m with
  |true=>match i with
   |0=>cases ha;exact .agg [] [] rfl (fun i c h=>by cases h) (fun i c v h=>by cases h)
   |1=>cases ha;exact hxs
   |i+2=>cases ha
  |false=>match i with
   |0=>cases ha;exact hxs
   |i+1=>cases ha) (b.atR ⟨tm4,ds⟩ (.inRegion o5 [4,5,6]::items)) cs
 have T4:=vY (P:=Tryz.prog) (w:=w1) (w':=w1) (b:=b) (ds:=ds) (k:=items) (py (by omega)) i4 (fun c e=>by cases e) (by
  have h1:tm4[18]?.getD undef=CM.fnU g m:=by simpa using e18'
  have h2:tm4[19]?.getD undef=vx:=by simpa using e19
  obtain ⟨F,hF,hbody⟩:=hp.1;have hname:=names g F hF hbody
  have hb2:¬ F.body=none:=by
   intro hn;rw[hn] at hbody;cases hbody
  cases m <;> simp [execOp,resolve,Deferred.ofValue,invoke,callFunc,CM.fnU,h1,h2,hF,hb2,hname,go_sem]) S4
 have A5:=A4.fr F2 W2
 have R5:Rel Tryz.prog ans B0 w2 Ψ2 ρ ow (ans 18) (sl (ans 18) (tmA nm xs .dead) ⟨[(20,.val r.enc)],⟨[zV,zE],0⟩⟩) (tm4.setIfInBounds 20 v) [zV,zE]:=by
  have:=A5.rel.write 20 (.val r.enc) v (by rw[nt];omega) (fun t o e=>absurd e (A5.nr.tlook _ _ _ _)) (fun u o e=>by cases e) (fun cs e=>by cases e) Ψ2.le_refl (aG _) A5.rel.wsat (fun t _ _=>Same.refl _ _ _ _ _) (.val _ v (hv.mono (HT.le_refl _) (pre_nil _))) A5.rel.objs A5.rel.lt (Nat.le_refl _)
  rw[show sl (ans 18) (tmA nm xs .dead) ⟨[(20,.val r.enc)],⟨[zV,zE],0⟩⟩=upd (sl (ans 18) (tmA nm xs .dead) ⟨[],⟨[zV,zE],0⟩⟩) 20 (.val r.enc) from dG (ans 18).keep (tmA nm xs .dead) ⟨[],⟨[zV,zE],0⟩⟩ 20 (.val r.enc)];exact this
 obtain ⟨sc,hs56,hcm⟩:=s56 nm xs r;have hk:=hs56 (fun v rs=>sB (.pan v) ⟨tmA nm xs .dead,rs.sto⟩) (fun rs=>sB .norm ⟨commit (ans 18).keep (tmA nm xs .dead) rs.sc,rs.sto⟩);simp only[hcm] at hk;rcases pE (ds:=ds) (b:=b) (items:=items) (cs:=cs) hcf A4.nr R5 A4.lo hk with ⟨rs',w',Ψ',ρ',ow',tmps',a1,a2,a3,a4,a5,a6⟩|⟨x,rs',v,w',Ψ',ρ',ow',tmps',todo',a1,a2,a3,a4,a5,a6,a7⟩
 ·simp only[sB,Option.some.injEq,Prod.mk.injEq,true_and] at a1
  have hA:=At.commit (sto:=rs'.sto) A4.nr a2 (by rw[a5.lo];exact Nat.le_trans A4.lo a5.len) rfl
  have hA:At Tryz.prog ans 18 B0 w' Ψ' ρ' ow' ⟨tmA nm xs (.box (aS r)),⟨[zV,zE],0⟩⟩ tmps':=by
   have a1':(⟨commit (ans 18).keep (tmA nm xs .dead) rs'.sc,rs'.sto⟩:St)=⟨tmA nm xs (.box (aS r)),⟨[zV,zE],0⟩⟩:=a1;rw[←a1'];exact hA
  refine ⟨w',Ψ',ρ',ow',tmps',hA,(F1.any.trans F2.any).trans a3,a4,SR.trans ?_⟩;subst htm1 htm2 htm3 htm4;exact T0.trans (T1.trans (T2.trans (T3.trans (T4.trans (a6.trans (.one stepR_region_end))))))
 ·simp [sB] at a1
end Go.Proofs.YtdkkaldimefljaaGreatDoor
end
section
namespace Go.Proofs.YtdkkaldimefljaaGreatDoor
open Go.AM Go.RowKit
set_option maxRecDepth 100000
set_option maxHeartbeats 4000000
theorem uV {P:Program} {w w':World} {ρ:CM.Rho} {h:CM.T CM.O} {nx:CM.Q} (H:CM.HR P w ρ h nx w'):Below w.heap.size w w':=⟨H.os,H.tape,H.output,H.size,H.old⟩
theorem nj {s:List UInt8} {vs:Array Value} {Ψ:HT} (hl:[AVal.str s].length=vs.size) (ha:∀ (i:Nat) a,[AVal.str s][i]?=some a→VRel Ψ [] a (vs.getD i undef)):vs=⟨[.string ⟨⟨s⟩⟩]⟩:=by
 obtain ⟨vs⟩:=vs
 match vs,hl with
 |[v],_ =>
  have:=ha 0 _ rfl
  cases this;rfl
theorem ou (s:List UInt8) (ρ:CM.Rho):CM.VRs ρ [.str s.length (CM.packL s)] [.string ⟨⟨s⟩⟩]:=.cons (.str _ _ s rfl rfl) .nil
theorem aEf {f:Nat} {s:List UInt8} {k:IntKind} {n:Int} (hF:∃ F,Tryz.prog.funcs[f]?=some F∧F.body.isSome=true) (hc:CM.isMk (CM.compF Tryz.prog f)=true) (e:CM.runF CM.fe26 1000 (CM.qn f) [.str s.length (CM.packL s)] (CM.qn 8)=.ok (.int k n)):PureOK Tryz.prog f [.str s] (.int k n):=by
 refine ⟨hF,fun w Ψ vs hw hl ha c cs=>?_⟩;obtain rfl:=nj hl ha;obtain ⟨w',ρ',h',nx',u,x,h1,h2,h3,h4⟩:=CM.call26 (n:=999) hc (ou s) e w hw.size8 c cs;rw[CM.fin_int h4] at h3;rw[h3.inv_int] at h1;have hb:=uV h2;exact ⟨w',Ψ,.int k n,oS hb,jA hw hb,.int _ _,h1⟩
theorem aAE {f:Nat} {s:List UInt8} {b:Bool} (hF:∃ F,Tryz.prog.funcs[f]?=some F∧F.body.isSome=true) (hc:CM.isMk (CM.compF Tryz.prog f)=true) (e:CM.runF CM.fe26 1000 (CM.qn f) [.str s.length (CM.packL s)] (CM.qn 8)=.ok (.bool b)):PureOK Tryz.prog f [.str s] (.bool b):=by
 refine ⟨hF,fun w Ψ vs hw hl ha c cs=>?_⟩;obtain rfl:=nj hl ha;obtain ⟨w',ρ',h',nx',u,x,h1,h2,h3,h4⟩:=CM.call26 (n:=999) hc (ou s) e w hw.size8 c cs;rw[CM.fin_bool h4] at h3;rw[h3.inv_bool] at h1;have hb:=uV h2;exact ⟨w',Ψ,.bool b,oS hb,jA hw hb,.bool _,h1⟩
theorem aFV {f:Nat} {s:List UInt8} {t:TyD} {b:Bool} (hF:∃ F,Tryz.prog.funcs[f]?=some F∧F.body.isSome=true) (hc:CM.isMk (CM.compF Tryz.prog f)=true) (e:CM.runF CM.fe26 1000 (CM.qn f) [.str s.length (CM.packL s)] (CM.qn 8)=.ok (.tup [t.v,.bool b])):PureT Tryz.prog f [.str s] [t.enc,.bool b]:=by
 refine ⟨hF,fun w Ψ vs hw hl ha c cs=>?_⟩;obtain rfl:=nj hl ha;obtain ⟨w',ρ',h',nx',u,x,h1,h2,h3,h4⟩:=CM.call26 (n:=999) hc (ou s) e w hw.size8 c cs
 have hx:∃ ty,x=.tup [ty,.bool b]∧CM.rdTy 12 h' ty=t.v:=by
  unfold CM.fin at h4
  split at h4
  ·rename_i ty b'
   simp only[CM.V.tup.injEq,List.cons.injEq,and_true] at h4;exact ⟨ty,by rw[h4.2],h4.1⟩
  ·split at h4
   ·rename_i es _
    simp only[CM.V.tup.injEq] at h4;have h5:=congrArg (fun l=>l[1]?) h4;simp only[List.getElem?_map,List.getElem?_cons_succ,List.getElem?_cons_zero,Option.map_eq_some_iff] at h5;obtain ⟨p,_,h5⟩:=h5;cases h5
   ·cases h4
  ·cases h4
  ·cases h4
  ·cases h4
 obtain ⟨ty,rfl,hrd⟩:=hx;obtain ⟨us,rfl,r1⟩:=h3.inv_tup;obtain ⟨u0,us1,rfl,r0,r1⟩:=r1.inv_cons;obtain ⟨u1,us2,rfl,rb,r1⟩:=r1.inv_cons;obtain rfl:=r1.inv_nil;have hb:=uV h2;have hw':=jA hw hb;have hrel:=jo (Ψ:=Ψ) h2 12 ty u0 t r0 hrd;refine ⟨w',lev Ψ w.heap.size w' 12,[u0,u1],⟨aB5 12,hb.size,fun b hlt _=>⟨hb.block b hlt,fun o=>vz 12 hlt o⟩,fun b hb=>absurd rfl hb,hb.os,hb.tape,hb.output⟩,ry hw' 12,rfl,fun i a u h5 h6=>?_,h1⟩
 match i with
 |0=>cases h5;cases h6;exact hrel
 |1=>cases h5;cases h6;rw[rb.inv_bool];exact .bool _
 |i+2=>simp at h5
theorem pure6:PureOK Tryz.prog 6 [] (.bool true):=by
 refine ⟨⟨_,Tryz.func6,by kernel_rfl⟩,fun w Ψ vs hw hl ha c cs=>?_⟩;obtain rfl:vs=#[]:=Array.eq_empty_of_size_eq_zero hl.symm;obtain ⟨w',h1,h2,h3,h4,h5,h6⟩:=Go.CM.sane26_ok w hw.size8 c cs;have hb:Below w.heap.size w w':=⟨h4,h5,h6,h2,h3⟩
 exact ⟨w',Ψ,.bool true,oS hb,jA hw hb,.bool _,h1⟩
theorem aMc:CM.isMk (CM.compF Tryz.prog 36)=true:=by kernel_rfl
theorem aM5:CM.isMk (CM.compF Tryz.prog 41)=true:=by kernel_rfl
theorem aII:CM.isMk (CM.compF Tryz.prog 157)=true:=by kernel_rfl
theorem gn {p:List UInt8→Prop} (s:List UInt8) (h:l9 s=true) (hp:∀ c∈conTab,p c):p s:=by
 obtain ⟨c,hc,he⟩:=List.any_eq_true.1 h
 have:c=s:=by simpa using he
 subst this;exact hp c hc
theorem aKz (s:List UInt8) (h:l9 s=true):PureOK Tryz.prog 157 [.str s] (.int .i64 3):=by
 refine aEf ⟨_,Tryz.func157,by kernel_rfl⟩ aII (gn (p:=fun s=>CM.runF CM.fe26 1000 (CM.qn 157) [.str s.length (CM.packL s)] (CM.qn 8)=.ok (.int .i64 3)) s h fun c hc=>?_);simp only[conTab,List.mem_cons,List.not_mem_nil,or_false] at hc;rcases hc with rfl|rfl|rfl|rfl|rfl|rfl|rfl|rfl
 ·exact CM.kd_True
 ·exact CM.kd_False
 ·exact CM.kd_Nil
 ·exact CM.kd_Cons
 ·exact CM.kd_Leaf
 ·exact CM.kd_Node
 ·exact CM.kd_Item
 ·exact CM.kd_End
theorem tH {p:List UInt8→TyD→Prop} (s:List UInt8) (t:TyD) (h:r6 s=some t) (hp:∀ x∈tyTab,p x.1 x.2):p s t:=by
 unfold r6 at h;rw[Option.map_eq_some_iff] at h;obtain ⟨x,hx,rfl⟩:=h;have h1:=List.find?_some hx
 have:x.1=s:=by simpa using h1
 subst this;exact hp x (List.mem_of_find?_eq_some hx)
theorem te:∀ x∈tyTab,CM.runF CM.fe26 1000 (CM.qn 36) [.str x.1.length (CM.packL x.1)] (CM.qn 8)=.ok (.tup [x.2.v,.bool true])∧CM.runF CM.fe26 1000 (CM.qn 41) [.str x.1.length (CM.packL x.1)] (CM.qn 8)=.ok (.bool true):=by
 intro x hx;simp only[tyTab,List.mem_cons,List.not_mem_nil,or_false] at hx;rcases hx with rfl|rfl|rfl|rfl|rfl|rfl|rfl|rfl|rfl|rfl|rfl|rfl|rfl|rfl|rfl|rfl
 ·exact ⟨CM.ty_tree,CM.pl_tree⟩
 ·exact ⟨CM.ty_tlist,CM.pl_tlist⟩
 ·exact ⟨CM.ty_tmember,CM.pl_tmember⟩
 ·exact ⟨CM.ty_tsize,CM.pl_tsize⟩
 ·exact ⟨CM.ty_length,CM.pl_length⟩
 ·exact ⟨CM.ty_tinsert,CM.pl_tinsert⟩
 ·exact ⟨CM.ty_tdepth,CM.pl_tdepth⟩
 ·exact ⟨CM.ty_items,CM.pl_items⟩
 ·exact ⟨CM.ty_list,CM.pl_list⟩
 ·exact ⟨CM.ty_append,CM.pl_append⟩
 ·exact ⟨CM.ty_reverse,CM.pl_reverse⟩
 ·exact ⟨CM.ty_take,CM.pl_take⟩
 ·exact ⟨CM.ty_drop,CM.pl_drop⟩
 ·exact ⟨CM.ty_concat,CM.pl_concat⟩
 ·exact ⟨CM.ty_zip,CM.pl_zip⟩
 ·exact ⟨CM.ty_unzip,CM.pl_unzip⟩
theorem p36 (s:List UInt8) (t:TyD) (h:r6 s=some t):PureT Tryz.prog 36 [.str s] [t.enc,.bool true] :=
 aFV ⟨_,Tryz.func36,by kernel_rfl⟩ aMc (tH (p:=fun s t=>CM.runF CM.fe26 1000 (CM.qn 36) [.str s.length (CM.packL s)] (CM.qn 8)=.ok (.tup [t.v,.bool true])) s t h fun x hx=>(te x hx).1)
theorem p41 (s:List UInt8) (t:TyD) (h:r6 s=some t):PureOK Tryz.prog 41 [.str s] (.bool true) :=
 aAE ⟨_,Tryz.func41,by kernel_rfl⟩ aM5 (tH (p:=fun s _=>CM.runF CM.fe26 1000 (CM.qn 41) [.str s.length (CM.packL s)] (CM.qn 8)=.ok (.bool true)) s t h fun x hx=>(te x hx).2)
theorem aJ2 (A:Aps) (B0:Nat) (hA:∀ args res,A.ap args=some (some res)→∀ sto w Ψ ρ ow vs,eA ans B0 w Ψ ρ ow args vs sto→∀ c cs,eE Tryz.prog ans B0 w Ψ ρ ow sto c cs (lone (Frame.enter Tryz.prog 18 vs .normal) (c::cs) w) res sto):Env Tryz.prog ans B0 (@jS A):=aJY fun f args res h=>by
 unfold jS at h;cases h18:Nat.beq f 18 with
 |true =>
  rw[h18] at h;obtain rfl:=Nat.eq_of_beq_eq_true h18;exact ⟨⟨_,Tryz.func18,by kernel_rfl⟩,hA args res h⟩
 |false =>
 rw[h18] at h;simp only[cond_false] at h;cases h6:Nat.beq f 6 with
 |true =>
  rw[h6] at h;obtain rfl:=Nat.eq_of_beq_eq_true h6;simp only[cond_true] at h
  split at h
  ·cases h
   exact pure6.prim (fun a ha=>by simp at ha)
  ·cases h
 |false =>
 rw[h6] at h;simp only[cond_false] at h;cases h36:Nat.beq f 36 with
 |true =>
  rw[h36] at h;obtain rfl:=Nat.eq_of_beq_eq_true h36;simp only[cond_true] at h
  split at h
  ·rename_i s
   simp only[Option.some.injEq,Option.map_eq_some_iff] at h;obtain ⟨t,ht,rfl⟩:=h;exact (p36 s t ht).prim (fun a ha=>by rw[List.mem_singleton.1 ha];rfl)
  ·cases h
 |false =>
 rw[h36] at h;simp only[cond_false] at h;cases h41:Nat.beq f 41 with
 |true =>
  rw[h41] at h;obtain rfl:=Nat.eq_of_beq_eq_true h41;simp only[cond_true] at h
  split at h
  ·rename_i s
   simp only[Option.some.injEq,Option.map_eq_some_iff] at h;obtain ⟨t,ht,rfl⟩:=h;exact (p41 s t ht).prim (fun a ha=>by rw[List.mem_singleton.1 ha];rfl)
  ·cases h
 |false =>
 rw[h41] at h;simp only[cond_false] at h;cases h157:Nat.beq f 157 with
 |true =>
  rw[h157] at h;obtain rfl:=Nat.eq_of_beq_eq_true h157;simp only[cond_true] at h
  split at h
  ·rename_i s
   cases hc:l9 s with
   |true =>
    rw[hc] at h;cases h;exact (aKz s hc).prim (fun a ha=>by rw[List.mem_singleton.1 ha];rfl)
   |false=>rw[hc] at h;cases h
  ·cases h
 |false=>rw[h157] at h;cases h
end Go.Proofs.YtdkkaldimefljaaGreatDoor
end
section
namespace Go.Proofs.YtdkkaldimefljaaGreatDoor
open Go.AM Go.RowKit
set_option maxRecDepth 100000
set_option maxHeartbeats 4000000
def dfr (b4 b5:Nat):Deferred:={ target:=.fn (.func 27) #[.pointer (some ⟨b4,0,none⟩),.pointer (some ⟨b5,0,none⟩)],args:=#[] }
def fr18:Frame:={ (default:Frame) with fn:=18,kind:=.normal,roundOf:=none }
theorem hdE (Ψ:HT) (ρ:List Nat) (i b:Nat) {v:Value} (h:VRel Ψ ρ (.loc i 0) v) (hb:ρ[i]?=some b):v=.pointer (some ⟨b,0,none⟩):=by
 cases h with
 |loc _ _ b' h=>rw[hb] at h;cases h;rfl
theorem aJS {tm:Array Value} {w:World} {b4 b5:Nat} {s v:Value} {n x:Int} {T4 T5:TypeId} (h4:w.heap[b4]?=some (.cells #[s,.int .i64 n,v] T4 (0,0))) (h5:w.heap[b5]?=some (.cells #[.int .i64 x] T5 (0,0)))
  (e4:tm.getD 4 undef=.pointer (some ⟨b4,0,none⟩)) (e5:tm.getD 5 undef=.pointer (some ⟨b5,0,none⟩)) :
  (results Tryz.f18 tm).run Tryz.prog w=.ok (.tuple #[.agg #[s,.int .i64 n,v],.int .i64 x]) w:=by
 have c0:w.cell? ⟨b4,0,none⟩=some s:=(cell_of_heap h4 0).trans rfl;have c1:w.cell? ⟨b4,1,none⟩=some (.int .i64 n):=(cell_of_heap h4 1).trans rfl;have c2:w.cell? ⟨b4,2,none⟩=some v:=(cell_of_heap h4 2).trans rfl;have c5:w.cell? ⟨b5,0,none⟩=some (.int .i64 x):=(cell_of_heap h5 0).trans rfl;have e4':tm[4]?.getD undef=.pointer (some ⟨b4,0,none⟩):=by simpa using e4
 have e5':tm[5]?.getD undef=.pointer (some ⟨b5,0,none⟩):=by simpa using e5
 simp [results,Tryz.results18,e4',e5',go_sem,c0,c1,c2,c5]
theorem aDJ {tm:Array Value} {todo:List Item} {w w':World} {b4 b5:Nat} {v:Value} (cs:List Frame)
  (hc:CallsD Tryz.prog 27 #[.pointer (some ⟨b4,0,none⟩),.pointer (some ⟨b5,0,none⟩)] .returning w fun e u' w1=>e=.returned (.tuple #[])∧settle u'=.returning∧w1=w')
  (hr:(results Tryz.f18 tm).run Tryz.prog w'=.ok v w') (c:Frame) :
  Steps Tryz.prog (lone { fr18.atR ⟨tm,[dfr b4 b5]⟩ todo with mode:=.returning } (c::cs) w) (lone (c.finish v) cs w'):=by
 have hL:Leaves Tryz.prog Tryz.f18 tm (fun e w1=>e=.returned v∧w1=w') [dfr b4 b5] .returning w:=by
  refine leaves_cons (f:=27) (args:=#[.pointer (some ⟨b4,0,none⟩),.pointer (some ⟨b5,0,none⟩)]) (by simp) (by simp [dfr,go_sem]) ?_;refine hc.mono ?_
  rintro e u' w1 ⟨rfl,hs,rfl⟩
  show Leaves _ _ _ _ [] (settle u') w1;rw[hs];exact ⟨v,hr,rfl,rfl⟩
 obtain ⟨e,w1,fr',⟨rfl,rfl⟩,hs,_,hl⟩:=leaves_steps [dfr b4 b5] .returning w { fr18.atR ⟨tm,[dfr b4 b5]⟩ todo with mode:=.returning } (c::cs) rfl rfl rfl Tryz.func18 rfl hL;exact Steps.trans hs (.one (step_leave_returned hl))
variable [Aps]
abbrev tmB (nm:List UInt8) (xs:List AVal) (a b s x y:Slot) (n:Slot):List Slot:=[.val (.str nm),.val (.slice xs),a,b,n,s,x,y]
theorem aBS (E:∀ B0,Env Tryz.prog ans B0 jS) {nm:List UInt8} {xs:List AVal} {r:VaD} {g:Nat} {m:Bool} {n:Int} (hg:CM.lookTab nm.length (CM.packL nm) CM.fnTab=some (g,m)) (hx:lok 0 (.slice xs)=true) (hp:PureOK Tryz.prog g (aCR m xs) r.enc) (hn:n≤4000) (hr:lok 0 r.enc=true)
  (h26:CF (.fn 26) [.val (.str nm),.val (.slice xs)] ⟨[zV,zE],0⟩=some (.ret (.val (.int .i64 0)),⟨[zV,zE],0⟩)) (h29:CF (.fn 29) [.val r.enc] ⟨[zV,zE],0⟩=some (.ret (.val (.int .i64 n)),⟨[zV,zE],0⟩))
  (h24:CF (.fn 24) [.val r.enc] ⟨[zV,zE],0⟩=some (.ret (.val (.int .i64 0)),⟨[zV,zE],0⟩)) (h22:CF (.fn 22) [.val r.enc] ⟨[zV,zE],0⟩=some (.ret (.val r.enc),⟨[zV,zE],0⟩)) :
  PureT Tryz.prog 18 [.str nm,.slice xs] [r.enc,.int .i64 0]:=by
 refine ⟨⟨_,Tryz.func18,by kernel_rfl⟩,fun w Ψ vs hw hl ha c cs=>?_⟩;have hcf:lS Tryz.prog ans w.heap.size CF:=vk (E w.heap.size);have nt:(ans 18).nt=33:=by rw[nB]
 have hA0:=ij (P:=Tryz.prog) (ans:=ans) (f:=18) (jv (ans:=ans) hw (args:=[.val (.str nm),.val (.slice xs)]) (vs:=vs) hl (fun x hx=>by
  simp only[List.mem_cons,List.not_mem_nil,or_false] at hx;rcases hx with rfl|rfl <;> rfl) (fun i x hx=>by
  match i with
  |0=>cases hx;exact .val _ _ (ha 0 _ rfl)
  |1=>cases hx;exact .val _ _ (ha 1 _ rfl)
  |i+2=>simp at hx)) (by rw[nt];show 2≤33;omega)
 have htm:((ans 18).keep.map fun t=>(([.val (.str nm),.val (.slice xs)]:List Slot)[t]?).getD .dead)=tmB nm xs .dead .dead .dead .dead .dead .dead:=by rw[nB];rfl
 rw[htm] at hA0
 have henter:Frame.enter Tryz.prog 18 vs .normal=fr18.atR ⟨vs++Array.replicate ((ans 18).nt - vs.size) undef,[]⟩ [.code (.seq p0 (.seq (.seq p1 (.seq p2 (.cond (.tmp 12) p2t .skip))) (.seq p4 (.seq p5 (.seq (.seq p6 (.cond (.tmp 28) p6t .skip)) (.seq p8 .ret))))))]:=by
  rw[nt];simp only[Frame.enter,Tryz.func18,Option.bind_some,aL5,Tryz.ntmps18,Frame.atR,fr18];rfl
 rw[henter];obtain ⟨w0,Ψ0,ρ0,ow0,tm0,A0,F0,p0',_,S0⟩:=j9 (ds:=[]) (b:=fr18) (cs:=c::cs) (items:=[.code (.seq (.seq p1 (.seq p2 (.cond (.tmp 12) p2t .skip))) (.seq p4 (.seq p5 (.seq (.seq p6 (.cond (.tmp 28) p6t .skip)) (.seq p8 .ret)))))]) hcf (h0 nm xs) hA0;obtain ⟨w1,Ψ1,ρ1,ow1,tm1,A1,F1,p1',_,S1⟩:=j9 (ds:=[]) (b:=fr18) (cs:=c::cs) (items:=[.code (.seq p2 (.cond (.tmp 12) p2t .skip)),.code (.seq p4 (.seq p5 (.seq (.seq p6 (.cond (.tmp 28) p6t .skip)) (.seq p8 .ret))))]) hcf (h1 nm xs h26) A0;obtain ⟨w2,Ψ2,ρ2,ow2,tm2,A2,F2,p2',_,S2⟩:=j9 (ds:=[]) (b:=fr18) (cs:=c::cs) (items:=[.code (.cond (.tmp 12) p2t .skip),.code (.seq p4 (.seq p5 (.seq (.seq p6 (.cond (.tmp 28) p6t .skip)) (.seq p8 .ret))))]) hcf (h2 nm xs) A1
 have c12:tm2.getD 12 undef=.bool false:=by
  have:=A2.rel.slots 12
  rw[nB] at this;generalize tm2.getD 12 undef=u at this;cases this with
  |val _ _ h=>cases h;rfl
 have hsz:tm2.size=33:=A2.rel.size.trans nt;obtain ⟨b4,r4,_⟩:=A2.rel.objs.2 0 _ rfl;obtain ⟨b5,r5,_⟩:=A2.rel.objs.2 1 _ rfl
 have loc:∀ (t i:Nat),sl (ans 18) (tmB nm xs (.val (.loc 0 0)) (.val (.loc 1 0)) .dead (.val (.bool false)) .dead (.val (.int .i64 0))) ⟨[],⟨[zV,zE],0⟩⟩ t=.val (.loc i 0)→∀ b,ρ2[i]?=some b→tm2.getD t undef=.pointer (some ⟨b,0,none⟩):=fun t i e b hb=>by
  have:=A2.rel.slots t
  rw[show sl (ans 18) _ _ t=Slot.val (.loc i 0) from e] at this;generalize tm2.getD t undef=u at this;cases this with
  |val _ _ h=>exact hdE _ _ _ _ h hb
 have v4:=loc 4 0 (by rw[nB];rfl) b4 r4;have v5:=loc 5 1 (by rw[nB];rfl) b5 r5;obtain ⟨e3,a3,w3,⟨rfl,rfl,ht,hd⟩,S3⟩:=aI8 tm2 hsz w2 fr18 [.code (.seq p5 (.seq (.seq p6 (.cond (.tmp 28) p6t .skip)) (.seq p8 .ret)))] (c::cs);rw[v4,v5] at ht hd;have A3:=pJ A2 15 (.func (.func 27) #[] #[.pointer (some ⟨b4,0,none⟩),.pointer (some ⟨b5,0,none⟩)]) (by rw[nt];omega) (by rw[nB];rfl);obtain ⟨w4,Ψ4,ρ4,ow4,tm4,A4,F4,p4',S4⟩:=aK5 E hg hx hp (ds:=[dfr b4 b5]) (b:=fr18) (cs:=c::cs) (items:=[.code (.seq (.seq p6 (.cond (.tmp 28) p6t .skip)) (.seq p8 .ret))]) A3;obtain ⟨w5,Ψ5,ρ5,ow5,tm5,A5,F5,p5',_,S5⟩:=j9 (ds:=[dfr b4 b5]) (b:=fr18) (cs:=c::cs) (items:=[.code (.cond (.tmp 28) p6t .skip),.code (.seq p8 .ret)]) hcf (h6 nm xs r n (by simpa using hn) h29 h24) A4
 have c28:tm5.getD 28 undef=.bool false:=by
  have:=A5.rel.slots 28
  rw[nB] at this;generalize tm5.getD 28 undef=u at this;cases this with
  |val _ _ h=>cases h;rfl
 obtain ⟨w6,Ψ6,ρ6,ow6,tm6,A6,F6,p6',_,S6⟩:=j9 (ds:=[dfr b4 b5]) (b:=fr18) (cs:=c::cs) (items:=[.code .ret]) hcf (h8 nm xs r h22) A5;have q4:ρ6[0]?=some b4:=p6' 0 b4 (p5' 0 b4 (p4' 0 b4 r4));have q5:ρ6[1]?=some b5:=p6' 1 b5 (p5' 1 b5 (p4' 1 b5 r5));have sl4:=A6.rel.slots 4;have sl5:=A6.rel.slots 5;rw[nB] at sl4 sl5
 have u4:tm6.getD 4 undef=.pointer (some ⟨b4,0,none⟩):=by
  generalize tm6.getD 4 undef=u at sl4;cases sl4 with
  |val _ _ h=>exact hdE _ _ _ _ h q4
 have u5:tm6.getD 5 undef=.pointer (some ⟨b5,0,none⟩):=by
  generalize tm6.getD 5 undef=u at sl5;cases sl5 with
  |val _ _ h=>exact hdE _ _ _ _ h q5
 obtain ⟨k4,e4,o4⟩:=A6.rel.objs.2 0 _ rfl;obtain rfl:k4=b4:=Option.some.inj (e4.symm.trans q4);obtain ⟨k5,e5,o5'⟩:=A6.rel.objs.2 1 _ rfl;obtain rfl:k5=b5:=Option.some.inj (e5.symm.trans q5);have hc:=VaD.enc_eq r;simp only[aS] at o4;unfold zE at o5';cases o4 with
 |box _ _ o4 =>
 cases o5' with
 |box _ _ o5' =>
 obtain ⟨us,T4,g4,l4,m4⟩:=o4.heap;obtain ⟨us5,T5,g5,l5,m5⟩:=o5'.heap
 match us,l4 with
 |[s0,s1,s2],_ =>
 match us5,l5 with
 |[x0],_ =>
 have y0:=m4 0 _ _ rfl rfl;have y1:=m4 1 _ _ rfl rfl;have y2:=m4 2 _ _ rfl rfl;have z0:=m5 0 _ _ rfl rfl;cases y0 with
 |val _ _ _ y0 =>
 cases y1 with
 |val _ _ _ y1 =>
 cases y2 with
 |val _ _ c2 y2 =>
 cases z0 with
 |val _ _ _ z0 =>
 cases y1;cases z0
 have hv:VRel Ψ6 (List.take (0+1) ρ6) r.enc (.agg ⟨[s0,.int .i64 r.num,s2]⟩):=by
  rw[hc];refine .agg _ _ rfl (fun i c h=>?_) (fun i c v h1 h2=>?_)
  ·match i with
   |0=>cases h;rfl
   |1=>cases h;rfl
   |2=>cases h;rfl
   |i+3=>cases h
  ·match i with
   |0=>cases h1;cases h2;exact y0
   |1=>cases h1;cases h2;exact .int _ _
   |2=>cases h1;cases h2;exact y2
   |i+3=>cases h1
 have hv':=hv.lok hr;have L:=aDJ (tm:=tm6) (todo:=[.code .ret]) cs ((qe (.pointer (some ⟨k4,0,none⟩)) (.pointer (some ⟨k5,0,none⟩)) w6).mono fun e u' w1 ⟨h1,h2,h3⟩=>⟨h1,by rw[h2];rfl,h3⟩) (aJS g4 g5 u4 u5) c;have FF:=((((F0.trans F1).trans F2).trans F4).trans F5).trans F6;refine ⟨w6,Ψ6,[.agg ⟨[s0,.int .i64 r.num,s2]⟩,.int .i64 0],⟨FF.le,FF.size,FF.keep,fun b hb=>absurd rfl hb,FF.os,FF.tape,FF.output⟩,A6.rel.wsat,rfl,fun i x u h1 h2=>?_,?_⟩
 ·match i with
  |0=>cases h1;cases h2;exact hv'
  |1=>cases h1;cases h2;exact .int _ _
  |i+2=>cases h1
 ·obtain ⟨t3,d3⟩:=a3
  simp only at ht hd;subst ht hd;have S3':Steps Tryz.prog (lone (fr18.atR ⟨tm2,[]⟩ [.code p4,.code (.seq p5 (.seq (.seq p6 (.cond (.tmp 28) p6t .skip)) (.seq p8 .ret)))]) (c::cs) w3) (lone (fr18.atR ⟨tm2.setIfInBounds 15 (.func (.func 27) #[] #[.pointer (some ⟨k4,0,none⟩),.pointer (some ⟨k5,0,none⟩)]),[dfr k4 k5]⟩ [.code (.seq p5 (.seq (.seq p6 (.cond (.tmp 28) p6t .skip)) (.seq p8 .ret)))]) (c::cs) w3):=S3
  have hce:∀ {tm:Array Value} {ds:List Deferred} {k:Nat} {W:World} {a b:Code} {items:List Item},tm.getD k undef=.bool false→Steps Tryz.prog (lone (fr18.atR ⟨tm,ds⟩ (.code (.cond (.tmp k) a b)::items)) (c::cs) W) (lone (fr18.atR ⟨tm,ds⟩ (.code b::items)) (c::cs) W):=by
   intro tm ds k W a b items h
   have:=stepR_cond (P:=Tryz.prog) (b:=fr18) (a:=⟨tm,ds⟩) (k:=items) (cs:=c::cs) (w:=W) (c:=.tmp k) (x:=a) (y:=b) (t:=false) h
   exact Steps.one (by simpa using this)
  refine (Steps.one stepR_seq).trans (S0.trans ((Steps.one stepR_seq).trans ((Steps.one stepR_seq).trans (S1.trans ((Steps.one stepR_seq).trans (S2.trans ((hce c12).trans ((Steps.one stepR_skip).trans ((Steps.one stepR_seq).trans (S3'.trans ((Steps.one stepR_seq).trans (S4.trans ((Steps.one stepR_seq).trans ((Steps.one stepR_seq).trans (S5.trans ((hce c28).trans ((Steps.one stepR_skip).trans ((Steps.one stepR_seq).trans (S6.trans ((Steps.one (stepR_ret rfl)).trans L))))))))))))))))))))
end Go.Proofs.YtdkkaldimefljaaGreatDoor
end
section
namespace Go.Proofs.YtdkkaldimefljaaGreatDoor
open Go.AM Go.RowKit
set_option maxRecDepth 100000
set_option maxHeartbeats 4000000
def Good (v:VaD):Prop:=v.valid=true∧v.size < big∧v.cnt≤4000
theorem lZ (n:Int):Good (b9 n):=⟨rfl,by simp [b9,VaD.size,VaD.sizes,big],by simp [b9,VaD.cnt,VaD.cnts]⟩
theorem pc (b:Bool):Good (eB b):=by
 cases b
 ·exact ⟨by kernel_rfl,by simp [eB,VaD.size,VaD.sizes,big],by simp [eB,VaD.cnt,VaD.cnts]⟩
 ·exact ⟨by kernel_rfl,by simp [eB,VaD.size,VaD.sizes,big],by simp [eB,VaD.cnt,VaD.cnts]⟩
theorem tM:∀ l:List Int,(aW (l.map b9)).valid=true∧(aW (l.map b9)).size≤20 * l.length+10∧(aW (l.map b9)).cnt≤2 * l.length+1
 |[]=>by
  refine ⟨by kernel_rfl,?_,?_⟩
  ·simp [aW,VaD.size,VaD.sizes,nilS]
  ·simp [aW,VaD.cnt,VaD.cnts]
 |n::l=>by
  obtain ⟨h1,h2,h3⟩:=tM l;refine ⟨?_,?_,?_⟩
  ·simp only[List.map_cons,aW,VaD.valid,VaD.valids,h1,b9]
   rfl
  ·simp only[List.map_cons,aW,VaD.size,VaD.sizes,b9,List.length_cons,List.length_nil,tC] at h2 ⊢
   omega
  ·simp only[List.map_cons,aW,VaD.cnt,VaD.cnts,b9,List.length_cons] at h3 ⊢
   omega
theorem kC (l:List Int) (h:l.length≤40):Good (aW (l.map b9)):=by
 obtain ⟨h1,h2,h3⟩:=tM l;exact ⟨h1,by simp only[big];omega,by omega⟩
theorem rI:∀ l:List Int,(bJ (l.map b9)).valid=true∧(bJ (l.map b9)).size≤20 * l.length+10∧(bJ (l.map b9)).cnt≤2 * l.length+1
 |[]=>by
  refine ⟨by kernel_rfl,?_,?_⟩
  ·simp [bJ,VaD.size,VaD.sizes]
  ·simp [bJ,VaD.cnt,VaD.cnts]
 |n::l=>by
  obtain ⟨h1,h2,h3⟩:=rI l;refine ⟨?_,?_,?_⟩
  ·simp only[List.map_cons,bJ,VaD.valid,VaD.valids,h1,b9]
   rfl
  ·simp only[List.map_cons,bJ,VaD.size,VaD.sizes,b9,List.length_cons,List.length_nil] at h2 ⊢
   omega
  ·simp only[List.map_cons,bJ,VaD.cnt,VaD.cnts,b9,List.length_cons] at h3 ⊢
   omega
theorem uY (l:List Int) (h:l.length≤40):Good (bJ (l.map b9)):=by
 obtain ⟨h1,h2,h3⟩:=rI l;exact ⟨h1,by simp only[big];omega,by omega⟩
theorem oE:∀ t:Tr,t.val.valid=true∧t.val.size≤20 * t.nodes+10∧t.val.cnt≤3 * t.nodes+1
 |.leaf=>by
  refine ⟨by kernel_rfl,?_,?_⟩
  ·simp [Tr.val,VaD.size,VaD.sizes,Tr.nodes]
  ·simp [Tr.val,VaD.cnt,VaD.cnts,Tr.nodes]
 |.node l x r=>by
  obtain ⟨h1,h2,h3⟩:=oE l;obtain ⟨k1,k2,k3⟩:=oE r;refine ⟨?_,?_,?_⟩
  ·simp only[Tr.val,VaD.valid,VaD.valids,h1,k1,b9]
   rfl
  ·simp only[Tr.val,VaD.size,VaD.sizes,b9,List.length_cons,List.length_nil,Tr.nodes] at h2 k2 ⊢
   omega
  ·simp only[Tr.val,VaD.cnt,VaD.cnts,b9,Tr.nodes] at h3 k3 ⊢
   omega
theorem gL (t:Tr) (h:t.nodes≤40):Good t.val:=by
 obtain ⟨h1,h2,h3⟩:=oE t;exact ⟨h1,by simp only[big];omega,by omega⟩
abbrev sA:TyD:=.mk [73,110,116] []
abbrev tA:TyD:=.mk [39,97] []
theorem pU {a:TyD} (h:∀ n,fY a (b9 n)):∀ l:List Int,fY (.mk [76,105,115,116] [a]) (aW (l.map b9))
 |[]=>.nil a
 |n::l=>.cons a _ _ (h n) (pU h l)
theorem x7:∀ l:List Int,fY (.mk [73,110,116,115] []) (bJ (l.map b9))
 |[]=>.fin
 |n::l=>.item _ _ (.int n) (x7 l)
theorem jD {a:TyD} (h:∀ n,fY a (b9 n)):∀ t:Tr,fY (.mk [84,114,101,101] [a]) t.val
 |.leaf=>.leaf a
 |.node l x r=>.node a _ _ _ (jD h l) (h x) (jD h r)
theorem VaD.lok:∀ v:VaD,AM.lok 0 v.enc=true:=by
 apply VaD.ind;intro v ih;rw[VaD.enc_eq];simp only[AM.lok,lokF,Bool.and_true,Bool.true_and,List.all_cons,List.all_nil]
theorem km (vs:List VaD):AM.lok 0 (.slice (vs.map VaD.enc))=true:=by
 simp only[AM.lok,lokF]
variable [Aps]
theorem eT (E:∀ B0,Env Tryz.prog ans B0 jS) {nm:List UInt8} {args:List VaD} {l:List TyD} {t:TyD} {r:VaD} {g:Nat} {m:Bool} (hg:CM.lookTab nm.length (CM.packL nm) CM.fnTab=some (g,m)) (ht:r6 nm=some (qP l t)) (htn:(tyName t==[45,62])=false) (hlen:l.length=args.length) (hb:l.length≤2)
  (hv:∀ y∈args,Good y) (hh:∀ (i:Nat) (t:TyD) (v:VaD),l[i]?=some t→args[i]?=some v→fY t v) (hr:Good r)
  (hcall:∀ sto:Sto,sto.lo≤sto.objs.length→CF (.fn g) ((aCR m (args.map VaD.enc)).map .val) sto=some (.ret (.val r.enc),sto)):PureT Tryz.prog 18 [.str nm,.slice (args.map VaD.enc)] [r.enc,.int .i64 0] :=
 aBS E (n:=(r.cnt:Nat)) hg (km args) (PureOK.ofRun E (hcall ⟨[],0⟩ (Nat.le_refl _))) (by have:=hr.2.2;omega) r.lok
  (c26 nm l t ht htn args hlen (by simp only[big];omega) hv hh ⟨[zV,zE],0⟩ (Nat.zero_le _)) (c29 r ⟨[zV,zE],0⟩ hr.2.1 hr.2.2) (c24 r hr.1 hr.2.1 hr.2.2 ⟨[zV,zE],0⟩ (Nat.zero_le _)) (c22 r ⟨[zV,zE],0⟩ hr.2.1)
theorem kW {t:TyD} {v:VaD} (h:fY t v):∀ (i:Nat) (t':TyD) (v':VaD),[t][i]?=some t'→[v][i]?=some v'→fY t' v'
 |0,_,_,h1,h2=>by cases h1;cases h2;exact h
 |i+1,_,_,h1,h2=>by simp at h1
theorem sf {t u:TyD} {v w:VaD} (h:fY t v) (k:fY u w):∀ (i:Nat) (t':TyD) (v':VaD),[t,u][i]?=some t'→[v,w][i]?=some v'→fY t' v'
 |0,_,_,h1,h2=>by cases h1;cases h2;exact h
 |1,_,_,h1,h2=>by cases h1;cases h2;exact k
 |i+2,_,_,h1,h2=>by simp at h1
theorem iV {v:VaD} (h:Good v):∀ y∈[v],Good y:=fun y hy=>by rw[List.mem_singleton.1 hy];exact h
theorem kj {v w:VaD} (h:Good v) (k:Good w):∀ y∈[v,w],Good y:=fun y hy=>by
 simp only[List.mem_cons,List.not_mem_nil,or_false] at hy;rcases hy with rfl|rfl
 ·exact h
 ·exact k
theorem oF {n:Nat} (h:n≤100):n < big:=by simp only[big];omega
theorem zf (E:∀ B0,Env Tryz.prog ans B0 jS) {nm:List UInt8} {vs:List VaD} {r:VaD} (h:AppR nm vs r):PureT Tryz.prog 18 [.str nm,.slice (vs.map VaD.enc)] [r.enc,.int .i64 0]:=by
 cases h with
 |tree l h =>
  have hn:=pZ l
  exact eT E (g:=87) (m:=true) (l:=[.mk [76,105,115,116] [sA]]) (t:=.mk [84,114,101,101] [sA]) (by kernel_rfl) rfl rfl rfl (by simp) (iV (kC l (by omega))) (kW (pU .int l)) (gL _ (by omega))
   (fun sto hlo=>c87 l (oF (by omega)) sto hlo)
 |tlist t h =>
  have hl:=gY t
  exact eT E (g:=84) (m:=true) (l:=[.mk [84,114,101,101] [tA]]) (t:=.mk [76,105,115,116] [tA]) (by kernel_rfl) rfl rfl rfl (by simp) (iV (gL t (by omega))) (kW (jD (fun n=>.var _) t)) (kC _ (by omega))
   (fun sto hlo=>c84 t sto (oF (by omega)) hlo)
 |tmember n t h =>
  exact eT E (g:=83) (m:=true) (l:=[sA,.mk [84,114,101,101] [sA]]) (t:=.mk [66,111,111,108] []) (by kernel_rfl) rfl rfl rfl (by simp) (kj (lZ n) (gL t (by omega))) (sf (.int n) (jD .int t)) (pc _)
   (fun sto hlo=>c83 n t sto)
 |tsize t h =>
  exact eT E (g:=85) (m:=true) (l:=[.mk [84,114,101,101] [tA]]) (t:=sA) (by kernel_rfl) rfl rfl rfl (by simp) (iV (gL t (by omega))) (kW (jD (fun n=>.var _) t)) (lZ _)
   (fun sto hlo=>c85 t sto (oF (by omega)))
 |length l h =>
  have:=c58 (l.map b9)
  rw[List.length_map] at this
  exact eT E (g:=58) (m:=false) (l:=[.mk [76,105,115,116] [tA]]) (t:=sA) (by kernel_rfl) rfl rfl rfl (by simp) (iV (kC l (by omega))) (kW (pU (fun n=>.var _) l)) (lZ _)
   (fun sto hlo=>this (oF (by omega)) sto hlo)
 |tinsert n t h =>
  have hp:=Tr.nodes_put n t
  exact eT E (g:=82) (m:=true) (l:=[sA,.mk [84,114,101,101] [sA]]) (t:=.mk [84,114,101,101] [sA]) (by kernel_rfl) rfl rfl rfl (by simp) (kj (lZ n) (gL t (by omega))) (sf (.int n) (jD .int t)) (gL _ (by omega))
   (fun sto hlo=>c82 n t sto)
 |tdepth t h =>
  exact eT E (g:=86) (m:=true) (l:=[.mk [84,114,101,101] [tA]]) (t:=sA) (by kernel_rfl) rfl rfl rfl (by simp) (iV (gL t (by omega))) (kW (jD (fun n=>.var _) t)) (lZ _)
   (fun sto hlo=>c86 t sto (oF (by omega)))
 |items l h =>
  exact eT E (g:=89) (m:=true) (l:=[.mk [76,105,115,116] [sA]]) (t:=.mk [73,110,116,115] []) (by kernel_rfl) rfl rfl rfl (by simp) (iV (kC l (by omega))) (kW (pU .int l)) (uY _ (by omega))
   (fun sto hlo=>c89 (l.map b9) (by rw[List.length_map];exact oF (by omega)) sto hlo)
 |list l h =>
  exact eT E (g:=88) (m:=true) (l:=[.mk [73,110,116,115] []]) (t:=.mk [76,105,115,116] [sA]) (by kernel_rfl) rfl rfl rfl (by simp) (iV (uY l (by omega))) (kW (x7 l)) (kC _ (by omega))
   (fun sto hlo=>c88 (l.map b9) (by rw[List.length_map];exact oF (by omega)) sto hlo)
end Go.Proofs.YtdkkaldimefljaaGreatDoor
end
section
namespace Go.Proofs.YtdkkaldimefljaaGreatDoor
open Go.AM Go.RowKit
set_option maxRecDepth 100000
set_option maxHeartbeats 4000000
theorem map_inj {enc:VaD→AVal}:∀ {l l':List VaD},(∀ a∈l,∀ b,enc a=enc b→a=b)→l.map enc=l'.map enc→l=l'
 |[],[],_,_=>rfl
 |[],_::_,_,h=>by simp at h
 |_::_,[],_,h=>by simp at h
 |x::l,y::l',hi,h=>by
  simp only[List.map_cons,List.cons.injEq] at h;rw[hi x (by simp) y h.1,map_inj (fun a ha=>hi a (by simp [ha])) h.2]
theorem VaD.enc_inj:∀ v w:VaD,v.enc=w.enc→v=w:=by
 apply VaD.ind (p:=fun v=>∀ w,v.enc=w.enc→v=w);intro v ih w h;rw[VaD.enc_eq v,VaD.enc_eq w] at h;simp only[AVal.agg.injEq,List.cons.injEq,AVal.str.injEq,AVal.int.injEq,AVal.slice.injEq,true_and,and_true] at h;obtain ⟨h1,h2,h3⟩:=h;have h4:=map_inj ih h3;cases v;cases w;simp only[VaD.con,VaD.num,VaD.args] at h1 h2 h4;rw[h1,h2,h4]
theorem AppR.fn {nm nm':List UInt8} {vs vs':List VaD} {r r':VaD} (h:AppR nm vs r) (h':AppR nm' vs' r') (hn:nm=nm') (hv:vs=vs'):r=r':=by
 cases h <;> cases h' <;> first
  |(exfalso;revert hn;decide)
  |(simp only[List.cons.injEq,and_true] at hv
    first
     |(obtain ⟨e1,e2⟩:=hv
       rw[vX e1,Tr.val_inj e2])
     |rw[uR (yD hv)]
     |rw[uR (uQ hv)]
     |rw[Tr.val_inj hv])
@[reducible] def A0:Aps:=⟨fun _=>some none⟩
theorem aMV (B0:Nat):Env Tryz.prog ans B0 (@jS A0):=aJ2 A0 B0 fun args res h=>by cases h
def ApP (args:List Slot) (r:VaD):Prop:=∃ nm vs,args=[.val (.str nm),.val (.slice (vs.map VaD.enc))]∧AppR nm vs r
theorem ApP.fn {args:List Slot} {r r':VaD} (h:ApP args r) (h':ApP args r'):r=r':=by
 obtain ⟨nm,vs,e,h⟩:=h;obtain ⟨nm',vs',e',h'⟩:=h';rw[e] at e';simp only[List.cons.injEq,Slot.val.injEq,AVal.str.injEq,AVal.slice.injEq,and_true] at e';exact h.fn h' e'.1 (map_inj (fun a _=>VaD.enc_inj a) e'.2)
open Classical in
@[reducible] noncomputable def A1:Aps:=⟨fun args=>if h:∃ r,ApP args r then some (some (.ret (.tup [h.choose.enc,.int .i64 0]))) else some none⟩
theorem aFh {args:List Slot} {r:VaD} (h:ApP args r):A1.ap args=some (some (.ret (.tup [r.enc,.int .i64 0]))):=by
 have hx:∃ r,ApP args r:=⟨r,h⟩
 have e:hx.choose=r:=hx.choose_spec.fn h;have e2:A1.ap args=some (some (.ret (.tup [hx.choose.enc,.int .i64 0]))):=dif_pos hx;rw[e2,e]
theorem aKD (B0:Nat):Env Tryz.prog ans B0 (@jS A1):=aJ2 A1 B0 fun args res h=>by
 by_cases hx:∃ r,ApP args r
 ·obtain ⟨r,hr⟩:=hx
  rw[aFh hr] at h;cases h;obtain ⟨nm,vs,rfl,hr⟩:=hr
  exact ((@zf A0 aMV _ _ _ hr).prim (ans:=ans) (B0:=B0) (fun a ha=>by
   simp only[List.mem_cons,List.not_mem_nil,or_false] at ha;rcases ha with rfl|rfl
   ·rfl
   ·exact km vs)).2
 ·have:A1.ap args=some none:=dif_neg hx
  rw[this] at h;cases h
theorem c18 {nm:List UInt8} {vs:List VaD} {r:VaD} (h:AppR nm vs r) (S:Sto):@CF A1 (.fn 18) [.val (.str nm),.val (.slice (vs.map VaD.enc))] S=some (.ret (.tup [r.enc,.int .i64 0]),S):=by
 refine fnP (r:=.ret (.tup [r.enc,.int .i64 0])) ?_ ?_
 ·show A1.ap _=_
  exact aFh ⟨nm,vs,rfl,h⟩
 ·rw[VaD.enc_eq r];rfl
theorem qk (l:List Int) (n:Int) (hl:l.length < big) (sto:Sto) (hlo:sto.lo≤sto.objs.length):@CF A1 (.fn 3) [.val (.slice (l.map iH)),.val (.int .i64 n)] sto=some (.ret (.val (.bool true)),sto) :=
 @c3 A1 l n hl sto hlo fun nm vs r h S=>c18 h S
end Go.Proofs.YtdkkaldimefljaaGreatDoor
end
