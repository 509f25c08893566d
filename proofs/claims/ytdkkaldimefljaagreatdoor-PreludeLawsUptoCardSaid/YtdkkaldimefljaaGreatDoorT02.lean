import Derived.Test.YtdkkaldimefljaaGreatDoorT01
import Derived.Test.YtdkkaldimefljaaGreatDoorK01
import Derived.Test.YtdkkaldimefljaaGreatDoorK03
set_option linter.all false
set_option maxRecDepth 100000
set_option maxHeartbeats 8000000
namespace Go.AM
variable {P:Program}{ans:FuncId->AK}{an:AK}{w w':World}{B0:Nat}{Z Z':HT}{J:List Nat}{ow:Own}{tmps:Array Value}{fid:FuncId}{st:St}
theorem Rel.fr{E:Nat->Slot}{objs:List AObj}(h:Rel P ans B0 w Z J ow an E tmps objs)(hF:Fr w Z (λ_=>none) w' Z' (λ_=>none))(hw:WSat Z' w'):Rel P ans B0 w' Z' J ow an E tmps objs:=by
 have same:∀kk i,Same w Z ow w' Z' ow kk i kk i:=λkk i b s hb=>by
  have AR:=h.lt b (by simp[hb])
  have:=hF.keep b AR rfl
  exact⟨hb,this.1,λo ho=>by rw[this.2 o];exact ho⟩
 exact⟨h.size,hw,λu=>(h.slots u).mono hF.le (aI _) (same false u) (λ_ _ _=>rfl),h.refs,h.boxes,h.objs.mono hF.le λi _=>same true i,λb hb=>Bx (h.lt b hb) hF.size,Bj h.base hF.size,h.hi⟩
theorem At.fr(h:At P ans fid B0 w Z J ow st tmps)(hF:Fr w Z (λ_=>none) w' Z' (λ_=>none))(hw:WSat Z' w'):At P ans fid B0 w' Z' J ow st tmps:=⟨h.rel.fr hF hw,h.nr,h.lo⟩
theorem Fr.any{ow:Own}(hF:Fr w Z (λ_=>none) w' Z' (λ_=>none)):Fr w Z ow w' Z' ow:=⟨hF.le,hF.size,λb hb _=>hF.keep b hb rfl,λ_ hb=>.inl hb,hF.os,hF.tape,hF.output⟩
section
open Go.RowKit
variable {P:Program}{w:World}{b:Frame}{tm:Array Value}{ds:List Deferred}{k:List Item}{cs:List Frame}{ops:Array Oper}{i:Nat}{rest:List Nat}{o:Oper}{w':World}{d:Option Nat}{op:Op}
theorem rF{f:FuncId}{args:Array Value}{v:Value}{w1:World}(ho:ops[i]?=some o)(hI:Is o d op)(hd:∀c,op≠.defer c)(hr:(execOp (⟨tm,ds⟩:Act).eval ⟨d,op,o.type,o.pos,o.after,none⟩).run P w=.ok (.enter f args) w')
  (S:Steps P (lone (Frame.enter P f args .normal) (b.atR ⟨tm,ds⟩ (.inRegion ops (i::rest)::k)::cs) w') (lone ((b.atR ⟨tm,ds⟩ (.inRegion ops (i::rest)::k)).finish v) cs w1)) :
  Steps P (lone (b.atR ⟨tm,ds⟩ (.inRegion ops (i::rest)::k)) cs w) (lone (b.atR ((⟨tm,ds⟩:Act).put d v) (.inRegion ops rest::k)) cs w1):=by
 have h1:(execOp (⟨tm,ds⟩:Act).eval o).run P w=.ok (.enter f args) w':=by rw[hI.eq];exact hr
 have h2:=Steps.one (kI (b:=b) (a:=⟨tm,ds⟩) (k:=k) (cs:=cs) (rest:=rest) ho (by unfold Region.wanted;rw[hI.gd]) (by rw[hI.op];exact hd) h1);rw[Frame.finish_atR,ho] at S;simp only[Ai,hI.dst] at S;exact h2.trans S
end
end Go.AM
namespace Go.Proofs.YtdkkaldimefljaaGreatDoor
open Go.AM Go.RowKit
theorem mr(f:Nat)(F:Func)(h:Tryz.prog.funcs[f]?=some F)(_:F.body.isSome=true):F.name≠ "runtime.NumGoroutine":=by
 have CN:Tryz.prog.funcs.all (λF=>!(F.name== "runtime.NumGoroutine"))=true:=by kernel_rfl
 have:=Gs.1 CN F (Gb h)
 intro e;rw[e] at this;simp at this
theorem aE8{B0:Nat}{ans:FuncId->AK}{pr:dY}(h:∀f args res,pr f args=some (some res)->(∃F,Tryz.prog.funcs[f]?=some F/\F.body.isSome=true)/\∀sto w Z J ow vs,dW ans B0 w Z J ow args vs sto->∀c cs,eI Tryz.prog ans B0 w Z J ow sto c cs (lone (Frame.enter Tryz.prog f vs .normal) (c::cs) w) res sto):Env Tryz.prog ans B0 pr :=
 ⟨h,mr,λ_ hc=>aAt (by kernel_rfl) hc⟩
theorem nC{B0:Nat}{fid:FuncId}{st:St}{w:World}{Z:HT}{J:List Nat}{ow:Own}{tmps:Array Value}(h:At Tryz.prog ans fid B0 w Z J ow st tmps)(d:Nat)(v:Value)(hd:d<(ans fid).nt)(hk:tlook (ans fid).keep st.tm d=.dead):At Tryz.prog ans fid B0 w Z J ow st (tmps.setIfInBounds d v):=by
 have hE:upd (sl (ans fid) st.tm ⟨[],st.sto⟩) d .dead=sl (ans fid) st.tm ⟨[],st.sto⟩:=by
  funext t;by_cases e:t=d
  ·subst e
   rw[eE];exact hk.symm
  ·rw[bI _ _ e]
 refine⟨?_,h.nr,h.lo⟩
 have:=h.rel.write d .dead v hd (λt o e=>absurd e (h.nr.tlook _ _ _ _)) (λu o e=>by cases e) (λcs e=>by cases e) Z.le_refl (aI _) h.rel.wsat (λt _ _=>Same.refl _ _ _ _ _) (.dead v) h.rel.objs h.rel.lt (Ae _)
 rw[hE] at this;exact this
def rC:bD->St->Option (bD×St):=λe st=>some (e,st)
theorem kV{B0:Nat}{cf:aO}{lp:aP}{fid:FuncId}{id:Nat}{ops:Array Oper}{st BF:St}(BK:kZ Tryz.prog ans B0 cf)(e:XK Tryz.prog ans cf lp fid (.region id ops false) st rC=some (.norm,BF)){w:World}{Z:HT}{J:List Nat}{ow:Own}{tmps:Array Value}{ds:List Deferred}{b:Frame}{cs:List Frame}{items:List Item}(h:At Tryz.prog ans fid B0 w Z J ow st tmps) :
  ∃w' Z' J' AP tmps',At Tryz.prog ans fid B0 w' Z' J' AP BF tmps'/\Fr w Z ow w' Z' AP/\pre J J'/\StoLe st.sto BF.sto/\Steps Tryz.prog (lone (b.atR ⟨tmps,ds⟩ (.code (.region id ops false)::items)) cs w) (lone (b.atR ⟨tmps',ds⟩ items) cs w'):=by
 simp only[XK] at e;rw[mF] at e;rcases o8 (ds:=ds) (b:=b) (items:=items) (cs:=cs) BK h.nr (rs:=⟨[],st.sto⟩) h.rel h.lo e with⟨rs',w',Z',J',AP,tmps',a1,a2,a3,a4,a5,a6⟩|⟨x,rs',v,w',Z',J',AP,tmps',ED,a1,a2,a3,a4,a5,a6,a7⟩
 ·simp only[rC,Ak,Bp,Fi] at a1
  subst a1;exact⟨w',Z',J',AP,tmps',At.commit h.nr a2 (by rw[a5.lo];exact Bj h.lo a5.len) rfl,a3,a4,a5,(Steps.one stepR_region).trans (a6.trans (.one stepR_region_end))⟩
 ·simp[rC] at a1
theorem gx{B0:Nat}{pr:dY}(E:Env Tryz.prog ans B0 pr):kZ Tryz.prog ans B0 (DF Tryz.prog ans pr) where
 fn:=λf args sto res AL e=>by
  obtain⟨n,hn⟩:=eK.1 e;exact(mK E n).1.fn _ _ _ _ _ hn
 yld:=λi args sto res AL e=>by
  obtain⟨n,hn⟩:=eK.1 e;exact(mK E n).1.yld _ _ _ _ _ hn
def kB:Code->Code
 |.seq a _=>a
 |c=>c
def dX:Code->Code
 |.seq _ b=>b
 |c=>c
def aPG:Code->Code
 |.cond _ a _=>a
 |c=>c
def aF0:Code->Array Oper
 |.region _ ops _=>ops
 |_=>#[]
def vg:Code->Nat
 |.region i _ _=>i
 |_=>0
noncomputable def Ln:Code:=(Tryz.f18.body).getD .skip
noncomputable def p0:Code:=kB Ln
noncomputable def p1:Code:=kB (kB (dX Ln))
noncomputable def p2:Code:=kB (dX (kB (dX Ln)))
noncomputable def Ot:Code:=aPG (dX (dX (kB (dX Ln))))
noncomputable def p4:Code:=kB (dX (dX Ln))
noncomputable def p5:Code:=kB (dX (dX (dX Ln)))
noncomputable def p6:Code:=kB (kB (dX (dX (dX (dX Ln)))))
noncomputable def KA:Code:=aPG (dX (kB (dX (dX (dX (dX Ln))))))
noncomputable def p8:Code:=kB (dX (dX (dX (dX (dX Ln)))))
theorem aQJ:Tryz.f18.body=some (.seq p0 (.seq (.seq p1 (.seq p2 (.cond (.tmp 12) Ot .skip))) (.seq p4 (.seq p5 (.seq (.seq p6 (.cond (.tmp 28) KA .skip)) (.seq p8 .ret)))))):=by kernel_rfl
end Go.Proofs.YtdkkaldimefljaaGreatDoor
namespace Go.CM
open Go.AM (run_getObj bytes_beq)
def fnU(g:Nat)(m:Bool):Value:=.func (.func g) (match m with|true=>#[.agg #[]]|false=>#[]) #[]
def lookTab(l n:Nat):List (Nat×Nat×Nat×Bool)->Option (Nat×Bool)
 |[]=>none
 |p::r=>bif Nat.beq p.1 l&&Nat.beq p.2.1 n then some (p.2.2.1,p.2.2.2) else lookTab l n r
def Tw(JP:List (Nat×Nat×Nat×Bool))(AD:List MapEntry):Prop:=JP.length=AD.length/\∀(i:Nat) p e,JP[i]?=some p->AD[i]?=some e->(∃s:List UInt8,e.key=.string ⟨⟨s⟩⟩/\s.length=p.1/\packL s=p.2.1)/\e.val=fnU p.2.2.1 p.2.2.2
theorem rm(s:List UInt8){g:Nat}{m:Bool}:∀{JP:List (Nat×Nat×Nat×Bool)}{AD:List MapEntry}(i:Nat),Tw JP AD->lookTab s.length (packL s) JP=some (g,m)->∃j,Instr.findNow .string (.string ⟨⟨s⟩⟩) AD i=some (some (j,fnU g m))
 |[],AD,i,_,e=>by cases e
 |p::JP,[],i,h,e=>by have:=h.1;simp at this
 |p::JP,en::AD,i,h,e=>by
  obtain⟨⟨s',hk,hl,hn⟩,hv⟩:=h.2 0 p en rfl rfl;have LI:Tw JP AD:=⟨by simpa using h.1,λi p' e' h1 h2=>h.2 (i+1) p' e' (by simpa using h1) (by simpa using h2)⟩
  have B4:Instr.sameNow .string (.string ⟨⟨s⟩⟩) en.key=some (s==s'):=by rw[hk];simp only[Instr.sameNow,bytes_beq]
  simp only[lookTab] at e;cases hc:Nat.beq p.1 s.length&&Nat.beq p.2.1 (packL s) with
  |true =>
   rw[hc] at e;cases e;simp only[Ac] at hc;have hs:s=s':=pA (by rw[hl,Aa hc.1]) (by rw[hn,Aa hc.2]);refine⟨i,?_⟩
   have:(s==s')=true:=by simpa using hs
   simp only[Instr.findNow,B4,this,hv]
  |false =>
   rw[hc] at e
   have hs:(s==s')=false:=by
    cases h2:(s==s') with
    |false=>rfl
    |true =>
     have:s=s':=by simpa using h2
     subst this;rw[<-hl,<-hn] at hc;rw[show Nat.beq s.length s.length=true from Cs _,show Nat.beq (packL s) (packL s)=true from Cs _] at hc;cases hc
   obtain⟨j,hj⟩:=rm s (i+1) LI e;exact⟨j,by simp only[Instr.findNow,B4,hs];exact hj⟩
theorem lookup_tab{P:Program}{w:World}{t kt el:TypeId}{b cl:Nat}{AD:Array MapEntry}{JP:List (Nat×Nat×Nat×Bool)}{s:List UInt8}{g:Nat}{m:Bool}(hu:P.underlying t=some (.map kt el))(hk:P.underlying kt=some .string)(hh:w.heap[b]?=some (.map AD cl))(hT:Tw JP AD.toList)
  (e:lookTab s.length (packL s) JP=some (g,m)):(Instr.lookup t (.map (some b)) (.string ⟨⟨s⟩⟩) false).run P w=.ok (fnU g m) w:=by
 obtain⟨j,hj⟩:=rm s 0 hT e;have BI:=run_getObj (P:=P) hh (by simp);have EB:=AM.run_checkKey (P:=P) (w:=w) (Z:=λ_ _=>AM.hno) (J:=[]) (t:=kt) (x:=.str s) (by simp[AM.keyT,hk]) (.str s) AD.isEmpty 9999;have G0:(Instr.findKey kt (.string ⟨⟨s⟩⟩) AD.toList).run P w=.ok (some (j,fnU g m)) w:=by simp[Instr.findKey,AM.run_underlying hk,hj]
 simp only[Instr.lookup,Sem.run_bind,AM.run_underlying hu,Result.andThen_ok,BI,Sem.run_pure,EB,G0];rfl
set_option maxRecDepth 1000000 in
theorem aRm:isMk (compF Go.Proofs.Tryz.prog 28)=true:=by kernel_rfl
theorem call28(w:World)(hw:8<=w.heap.size)(c:Frame)(cs:List Frame) :
  ∃(w':World)(b:Nat)(AD:Array MapEntry)(cl:Nat),Steps Go.Proofs.Tryz.prog (lone (Frame.enter Go.Proofs.Tryz.prog 28 #[] .normal) (c::cs) w) (lone (c.finish (.map (some b))) cs w')/\w'.heap[b]?=some (.map AD cl)/\Tw fnTab AD.toList /\
   w.heap.size<=w'.heap.size/\(∀b,b<w.heap.size->w'.heap[b]?=w.heap[b]?)/\w'.os=w.os/\w'.tape=w.tape/\w'.output=w.output:=by
 obtain⟨w',J',h',nx',u,x,h1,h2,h3,h4⟩:=call26 (n:=999) aRm (λ_=>.nil) aLu w hw c cs;unfold fin at h4
 split at h4
 ·simp only[V.tup.injEq] at h4
  have:=Ar List.length h4
  simp[fnTab] at this
 ·rename_i o
  split at h4
  ·rename_i es B3
   obtain⟨b,N,rfl,hb⟩:=h3.inv_map;have hO:=h2.obj o b N hb;rw[show h'.ob o=.map es from B3] at hO;cases hO with
   |map _ AD cl _ _ hB hW hM hBn =>
   simp only[V.tup.injEq] at h4;refine⟨w',b,⟨AD⟩,cl,h1,hW,⟨?_,λi p e hp he=>?_⟩,h2.size,h2.old,h2.os,h2.tape,h2.output⟩
   ·have:=Ar List.length h4
    simp only[Cb] at this;rw[<-this];exact hM.len
   ·have hei:es.length=fnTab.length:=by have:=Ar List.length h4;simpa using this
    have AR:i<es.length:=by rw[hei];exact(Ab.1 hp).1
    have h5:=Ar (λl=>l[i]?) h4;simp only[Ao,hp,Bf AR,Bw,Ak,fnV,V.tup.injEq,Cz,Fs] at h5;have hk:=hM.key i _ e (Bf AR) he;have hv:=hM.val i _ e (Bf AR) he;rw[h5.1] at hk;rw[h5.2] at hv;obtain⟨s,e1,e2,e3⟩:=hk.inv_str;refine⟨⟨s,e1,e2,e3⟩,?_⟩;obtain⟨us,vs,e4,r1,r2⟩:=hv.inv_fn;obtain rfl:=r2.inv_nil;rw[e4,eP];unfold fnU;cases hm:p.2.2.2 with
    |false =>
     rw[hm] at r1;obtain rfl:=r1.inv_nil;rfl
    |true =>
     rw[hm] at r1;obtain⟨v,B7,rfl,q1,q2⟩:=r1.inv_cons;obtain rfl:=q2.inv_nil;obtain⟨ws,rfl,q3,_⟩:=q1.inv_agg;obtain rfl:=q3.inv_nil;rfl
  ·cases h4
 ·cases h4
 ·cases h4
 ·cases h4
end Go.CM
namespace Go.Proofs.YtdkkaldimefljaaGreatDoor
section
open Go.AM
variable [Aps]
abbrev zV:AObj:=.box [.val (.str []),.val (.int .i64 0),.own 3 []]
abbrev zE:AObj:=.box [.val (.int .i64 0)]
theorem hp0(nm:List UInt8)(xs:List AVal):XK Tryz.prog ans CF LP 18 p0 ⟨[.val (.str nm),.val (.slice xs),.dead,.dead,.dead,.dead,.dead,.dead],⟨[],0⟩⟩ rC=some (.norm,⟨[.val (.str nm),.val (.slice xs),.val (.loc 0 0),.val (.loc 1 0),.dead,.dead,.dead,.dead],⟨[zV,zE],0⟩⟩):=by
 show XK _ _ _ _ _ (.region _ _ _) _ _=_;refine tQ ?_;repeat first|with_reducible constructor|with_reducible refine tW rfl ?_|((with_reducible apply tG);(·kernel_rfl);(·(intro _ _;(repeat (apply CH;(·(intro _;simp only[FL,FO,go_sem];rfl))));rfl));(·(simp only[go_sem];rfl)))
 rfl
theorem PZ(nm:List UInt8)(xs:List AVal)(W9:CF (.fn 26) [.val (.str nm),.val (.slice xs)] ⟨[zV,zE],0⟩=some (.ret (.val (.int .i64 0)),⟨[zV,zE],0⟩)) :
  XK Tryz.prog ans CF LP 18 p1 ⟨[.val (.str nm),.val (.slice xs),.val (.loc 0 0),.val (.loc 1 0),.dead,.dead,.dead,.dead],⟨[zV,zE],0⟩⟩ rC=some (.norm,⟨[.val (.str nm),.val (.slice xs),.val (.loc 0 0),.val (.loc 1 0),.val (.int .i64 0),.dead,.dead,.dead],⟨[zV,zE],0⟩⟩):=by
 show XK _ _ _ _ _ (.region _ _ _) _ _=_;refine tQ ?_;repeat first|with_reducible constructor|with_reducible refine tW rfl ?_|((with_reducible apply tG);(·kernel_rfl);(·(intro _ _;(repeat (apply CH;(·(intro _;simp only[W9,go_sem];rfl))));rfl));(·(simp only[go_sem];rfl)))
 rfl
theorem h2(nm:List UInt8)(xs:List AVal):XK Tryz.prog ans CF LP 18 p2 ⟨[.val (.str nm),.val (.slice xs),.val (.loc 0 0),.val (.loc 1 0),.val (.int .i64 0),.dead,.dead,.dead],⟨[zV,zE],0⟩⟩ rC=some (.norm,⟨[.val (.str nm),.val (.slice xs),.val (.loc 0 0),.val (.loc 1 0),.val (.int .i64 0),.dead,.val (.bool false),.dead],⟨[zV,zE],0⟩⟩):=by
 show XK _ _ _ _ _ (.region _ _ _) _ _=_;refine tQ ?_;repeat first|with_reducible constructor|with_reducible refine tW rfl ?_|((with_reducible apply tG);(·kernel_rfl);(·(intro _ _;(repeat (apply CH;(·(intro _;simp only[go_sem];rfl))));rfl));(·(simp only[go_sem];rfl)))
 rfl
theorem h6(nm:List UInt8)(xs:List AVal)(r:VaD)(n:Int)(hn:decide (n>4000)=false)(Sn:CF (.fn 29) [.val r.enc] ⟨[zV,zE],0⟩=some (.ret (.val (.int .i64 n)),⟨[zV,zE],0⟩))(JL:CF (.fn 24) [.val r.enc] ⟨[zV,zE],0⟩=some (.ret (.val (.int .i64 0)),⟨[zV,zE],0⟩)) :
  XK Tryz.prog ans CF LP 18 p6 ⟨[.val (.str nm),.val (.slice xs),.val (.loc 0 0),.val (.loc 1 0),.val (.int .i64 0),.box (bM r),.val (.bool false),.dead],⟨[zV,zE],0⟩⟩ rC=some (.norm,⟨[.val (.str nm),.val (.slice xs),.val (.loc 0 0),.val (.loc 1 0),.val (.int .i64 0),.box (bM r),.val (.bool false),.val (.bool false)],⟨[zV,zE],0⟩⟩):=by
 rw[VaD.enc_eq r] at Sn JL;simp only[bM];show XK _ _ _ _ _ (.region _ _ _) _ _=_;refine tQ ?_;repeat first|with_reducible constructor|with_reducible refine tW rfl ?_|((with_reducible apply tG);(·kernel_rfl);(·(intro _ _;(repeat (apply CH;(·(intro _;simp only[Sn,JL,hn,go_sem];rfl))));rfl));(·(simp only[go_sem];rfl)))
 rfl
theorem h8(nm:List UInt8)(xs:List AVal)(r:VaD)(QM:CF (.fn 22) [.val r.enc] ⟨[zV,zE],0⟩=some (.ret (.val r.enc),⟨[zV,zE],0⟩)) :
  XK Tryz.prog ans CF LP 18 p8 ⟨[.val (.str nm),.val (.slice xs),.val (.loc 0 0),.val (.loc 1 0),.val (.int .i64 0),.box (bM r),.val (.bool false),.val (.bool false)],⟨[zV,zE],0⟩⟩ rC=some (.norm,⟨[.val (.str nm),.val (.slice xs),.val (.loc 0 0),.val (.loc 1 0),.val (.int .i64 0),.box (bM r),.val (.bool false),.val (.bool false)],⟨[.box (bM r),zE],0⟩⟩):=by
 rw[VaD.enc_eq r] at QM;simp only[bM];show XK _ _ _ _ _ (.region _ _ _) _ _=_;refine tQ ?_;repeat first|with_reducible constructor|with_reducible refine tW rfl ?_|((with_reducible apply tG);(·kernel_rfl);(·(intro _ _;(repeat (apply CH;(·(intro _;simp only[QM,go_sem];rfl))));rfl));(·(simp only[go_sem];rfl)))
 rfl
end
section
open Go.AM Go.RowKit
theorem aPj(tmps:Array Value)(hs:tmps.size=33)(w:World):p4.wp Tryz.prog (λe a w'=>e=.normal/\w'=w/\a.tmps=tmps.setIfInBounds 15 (.func (.func 27) #[] #[tmps.getD 4 undef,tmps.getD 5 undef])/\a.defers=[{ target:=.fn (.func 27) #[tmps.getD 4 undef,tmps.getD 5 undef],args:=#[] }]) ⟨tmps,[]⟩ w:=by
 have hmf:∀(fn:Fn)(first cap:Array Value)(w:World),(Instr.makeFunc fn first cap).run Tryz.prog w=.ok (.func fn first cap) w:=λ_ _ _ _=>rfl
 show(Code.region _ _ _).wp _ _ _ _
 go_wp2
theorem qu(p q:Value)(w:World):CallsD Tryz.prog 27 #[p,q] .returning w λe u' w'=>e=.returned (.tuple #[])/\u'=.returning/\w'=w:=by
 refine callsD_of_wpS Tryz.func27 rfl λc₀ cs hu=>?_
 apply wpS_seq;apply wpS_region;simp[wpOpsS,go_sem,recoverD,hu,Tryz.ntmps27,Exit.thenS];refine wpS_of_wp ?_
 go_wp2
 cases c₀
 simp_all [bodyPostS,results,Tryz.results27]
noncomputable def o5:Array Oper:=aF0 p5
theorem p5E:p5=.region (vg p5) o5 false:=by kernel_rfl
theorem aFd:o5.size=7:=by kernel_rfl
noncomputable def JY(i:Nat):Oper:=o5.getD i ⟨none,.move (.tmp 0),0,default,#[],none⟩
theorem yb{i:Nat}(h:i<7):o5[i]?=some (JY i):=by
 have h':i<o5.size:=by rw[aFd];exact h
 simp[JY,Array.getD,h']
noncomputable def K3(o:Oper):Array TypeId:=match o.op with
 |.call c=>c.argTypes
 |_=>#[]
theorem i0:Is (JY 0) (some 16) (.call ⟨.value (.func 28),#[],K3 (JY 0)⟩):=⟨by kernel_rfl,by kernel_rfl,by kernel_rfl⟩
theorem i1:Is (JY 1) (some 17) (.move (.tmp 0)):=⟨by kernel_rfl,by kernel_rfl,by kernel_rfl⟩
theorem i2:Is (JY 2) (some 18) (.lookup 71 (.tmp 16) (.tmp 17) false):=⟨by kernel_rfl,by kernel_rfl,by kernel_rfl⟩
theorem i3:Is (JY 3) (some 19) (.move (.tmp 1)):=⟨by kernel_rfl,by kernel_rfl,by kernel_rfl⟩
theorem i4:Is (JY 4) (some 20) (.call ⟨.value (.tmp 18),#[.tmp 19],K3 (JY 4)⟩):=⟨by kernel_rfl,by kernel_rfl,by kernel_rfl⟩
end
end Go.Proofs.YtdkkaldimefljaaGreatDoor
namespace Go.AM
variable {P:Program}{ans:FuncId->AK}{an:AK}{w:World}{B0:Nat}{Z:HT}{J:List Nat}{ow:Own}{drawn:Bool}{cf:aO}{tm:List Slot}{R:Type}
theorem aPF{rid i:Nat}{ops:Array Oper}{kp:AVal->RS->Option R}{kn:RS->Option R}{o:Oper}{l:List Nat}{rs rs':RS}{x:Option R}(ho:ops[i]?=some o)(h:∀next:RS->Option R,gG P ans an drawn cf tm rid ops kp o i rs next=next rs')(k:jP P ans an drawn cf tm rid ops kp kn l rs'=x):jP P ans an drawn cf tm rid ops kp kn (i::l) rs=x:=by
 simp only[jP,ho];rw[h];exact k
end Go.AM
namespace Go.Proofs.YtdkkaldimefljaaGreatDoor
open Go.AM Go.RowKit
variable [Aps]
theorem s56(nm:List UInt8)(xs:List AVal)(r:VaD):∃sc,(∀(kp:AVal->RS->Option (bD×St))(kn:RS->Option (bD×St)),jP Tryz.prog ans (ans 18) false CF [.val (.str nm),.val (.slice xs),.val (.loc 0 0),.val (.loc 1 0),.val (.int .i64 0),.dead,.val (.bool false),.dead] (vg p5) o5 kp kn [5,6] ⟨[(20,.val r.enc)],⟨[zV,zE],0⟩⟩=kn ⟨sc,⟨[zV,zE],0⟩⟩) /\
  commit (ans 18).keep [.val (.str nm),.val (.slice xs),.val (.loc 0 0),.val (.loc 1 0),.val (.int .i64 0),.dead,.val (.bool false),.dead] sc=[.val (.str nm),.val (.slice xs),.val (.loc 0 0),.val (.loc 1 0),.val (.int .i64 0),.box (bM r),.val (.bool false),.dead]:=by
 rw[VaD.enc_eq r];simp only[bM];refine⟨[(7,.box [.val (.str r.con),.val (.int .i64 r.num),.val (.slice (r.args.map VaD.enc))]),(7,.box [.val (.str []),.val (.int .i64 0),.own 3 []]),(20,.val (.agg [.str r.con,.int .i64 r.num,.slice (r.args.map VaD.enc)]))],λkp kn=>?_,?_⟩
 ·refine aPF (o:=JY 5) (rs':=⟨[(7,.box [.val (.str []),.val (.int .i64 0),.own 3 []]),(20,.val (.agg [.str r.con,.int .i64 r.num,.slice (r.args.map VaD.enc)]))],⟨[zV,zE],0⟩⟩) (yb (by omega)) (λnext=>?_) ?_
  rotate_left
  ·refine aPF (o:=JY 6) (rs':=⟨[(7,.box [.val (.str r.con),.val (.int .i64 r.num),.val (.slice (r.args.map VaD.enc))]),(7,.box [.val (.str []),.val (.int .i64 0),.own 3 []]),(20,.val (.agg [.str r.con,.int .i64 r.num,.slice (r.args.map VaD.enc)]))],⟨[zV,zE],0⟩⟩) (yb (by omega)) (λnext=>?_) ?_
   rotate_left
   ·rfl
   ·show gG _ _ _ _ _ _ _ _ _ ⟨_,.store _ _ _,_,_,_,_⟩ _ _ _=_
    simp only[go_sem]
  ·show gG _ _ _ _ _ _ _ _ _ ⟨_,.alloc _,_,_,_,_⟩ _ _ _=_
   simp only[go_sem];rfl
 ·simp only[go_sem]
def Yx(m:Bool)(xs:List AVal):List AVal:=match m with
 |true=>[.agg [],.slice xs]
 |false=>[.slice xs]
abbrev JO(nm:List UInt8)(xs:List AVal)(s:Slot):List Slot:=[.val (.str nm),.val (.slice xs),.val (.loc 0 0),.val (.loc 1 0),.val (.int .i64 0),s,.val (.bool false),.dead]
theorem aRH(E:∀B0,Env Tryz.prog ans B0 jU){nm:List UInt8}{xs:List AVal}{r:VaD}{g:Nat}{m:Bool}(hg:CM.lookTab nm.length (CM.packL nm) CM.fnTab=some (g,m))(hx:lok 0 (.slice xs)=true)(hp:PureOK Tryz.prog g (Yx m xs) r.enc)
  {B0:Nat} {w:World} {Z:HT} {J:List Nat} {ow:Own} {tmps:Array Value} {ds:List Deferred} {b:Frame} {cs:List Frame} {items:List Item} (h:At Tryz.prog ans 18 B0 w Z J ow ⟨JO nm xs .dead,⟨[zV,zE],0⟩⟩ tmps) :
  ∃w' Z' J' AP tmps',At Tryz.prog ans 18 B0 w' Z' J' AP ⟨JO nm xs (.box (bM r)),⟨[zV,zE],0⟩⟩ tmps'/\Fr w Z ow w' Z' AP/\pre J J'/\Steps Tryz.prog (lone (b.atR ⟨tmps,ds⟩ (.code p5::items)) cs w) (lone (b.atR ⟨tmps',ds⟩ items) cs w'):=by
 have BK:kZ Tryz.prog ans B0 CF:=gx (E B0);have nt:(ans 18).nt=33:=by rw[pM]
 have sz:∀{w Z J ow st tmps},At Tryz.prog ans 18 B0 w Z J ow st tmps->tmps.size=33:=λh=>h.rel.size.trans nt
 have SR:=Steps.one (stepR_region (P:=Tryz.prog) (b:=b) (a:=⟨tmps,ds⟩) (k:=items) (cs:=cs) (w:=w) (id:=vg p5) (ops:=o5));rw[aFd] at SR;rw[p5E];obtain⟨w1,bm,AD,cl,S0,hm,hT,hz,hb,ho,ht,Mw⟩:=CM.call28 w h.rel.wsat.size8 (b.atR ⟨tmps,ds⟩ (.inRegion o5 [0,1,2,3,4,5,6]::items)) cs;have Jr:Below w.heap.size w w1:=⟨ho,ht,Mw,hz,hb⟩
 have F1:=nI (Z:=Z) Jr;have W1:=eH h.rel.wsat Jr;have Vh:=mr 28 Tryz.f28 Tryz.func28 (by kernel_rfl)
 have hb28:¬Tryz.f28.body=none:=by
  have hs:Tryz.f28.body.isSome=true:=by kernel_rfl
  intro hn;rw[hn] at hs;cases hs
 have T0:=rF (P:=Tryz.prog) (w:=w) (w':=w) (b:=b) (ds:=ds) (k:=items) (yb (by omega)) i0 (λc e=>by cases e) (by simp[execOp,resolve,Deferred.ofValue,invoke,callFunc,Act.eval,Tryz.func28,Vh,hb28,go_sem]) S0;have A1:=nC (h.fr F1 W1) 16 (.map (some bm)) (by rw[nt];omega) (by rw[pM];rfl);generalize htm1:tmps.setIfInBounds 16 (.map (some bm))=G8 at A1;have T1:=iY (P:=Tryz.prog) (w':=w1) (b:=b) (tm:=G8) (ds:=ds) (k:=items) (cs:=cs) (rest:=[2,3,4,5,6]) (v:=G8.getD 0 undef) (yb (i:=1) (by omega)) i1 (λc e=>by cases e) rfl;have A2:=nC A1 17 (G8.getD 0 undef) (by rw[nt];omega) (by rw[pM];rfl)
 have e16:(G8.setIfInBounds 17 (G8.getD 0 undef)).getD 16 undef=.map (some bm):=by
  rw[bZ _ _ _ _ (by rw[sz A1];omega),Ax (by omega),<-htm1,bZ _ _ _ _ (by rw[sz h];omega),Bo rfl]
 have e17:(G8.setIfInBounds 17 (G8.getD 0 undef)).getD 17 undef=.string ⟨⟨nm⟩⟩:=by
  rw[bZ _ _ _ _ (by rw[sz A1];omega),Bo rfl]
  have:=A1.rel.slots 0
  rw[pM] at this;generalize G8.getD 0 undef=u at this;cases this with
  |val _ _ h=>cases h;rfl
 generalize htm2:G8.setIfInBounds 17 (G8.getD 0 undef)=CU at A2 e16 e17;have hl:=CM.lookup_tab (P:=Tryz.prog) Tryz.underlying71 Tryz.underlying9 hm hT hg
 have T2:=iY (P:=Tryz.prog) (w':=w1) (b:=b) (tm:=CU) (ds:=ds) (k:=items) (cs:=cs) (rest:=[3,4,5,6]) (v:=CM.fnU g m) (yb (i:=2) (by omega)) i2 (λc e=>by cases e) (by
  have h1:(⟨CU,ds⟩:Act).eval (.tmp 16)=.map (some bm):=e16;have h2:(⟨CU,ds⟩:Act).eval (.tmp 17)=.string ⟨⟨nm⟩⟩:=e17;simp only[execOp,h1,h2,Sem.run_bind];rw[hl];rfl)
 have A3:=nC A2 18 (CM.fnU g m) (by rw[nt];omega) (by rw[pM];rfl);have e18:(CU.setIfInBounds 18 (CM.fnU g m)).getD 18 undef=CM.fnU g m:=by rw[bZ _ _ _ _ (by rw[sz A2];omega),Bo rfl]
 generalize htm3:CU.setIfInBounds 18 (CM.fnU g m)=DR at A3 e18;have T3:=iY (P:=Tryz.prog) (w':=w1) (b:=b) (tm:=DR) (ds:=ds) (k:=items) (cs:=cs) (rest:=[4,5,6]) (v:=DR.getD 1 undef) (yb (i:=3) (by omega)) i3 (λc e=>by cases e) rfl;have A4:=nC A3 19 (DR.getD 1 undef) (by rw[nt];omega) (by rw[pM];rfl);have e18':(DR.setIfInBounds 19 (DR.getD 1 undef)).getD 18 undef=CM.fnU g m:=by rw[bZ _ _ _ _ (by rw[sz A3];omega),Ax (by omega),e18]
 have OI:(DR.setIfInBounds 19 (DR.getD 1 undef)).getD 19 undef=DR.getD 1 undef:=by rw[bZ _ _ _ _ (by rw[sz A3];omega),Bo rfl]
 have C9:VRel Z [] (.slice xs) (DR.getD 1 undef):=by
  have:=A3.rel.slots 1
  rw[pM] at this;generalize DR.getD 1 undef=u at this;cases this with
  |val _ _ h=>exact h.lok hx
 generalize DR.getD 1 undef=vx at OI C9 T3 A4 e18';generalize htm4:DR.setIfInBounds 19 vx=D6 at A4 e18' OI
 obtain⟨w2,Z2,v,F2,W2,hv,S4⟩:=hp.2 w1 Z (match m with|true=>#[.agg #[],vx]|false=>#[vx]) W1 (by cases m<;>rfl) (λi a ha=>by
  cases m with
  |true=>match i with
   |0=>cases ha;exact .agg [] [] rfl (λi c h=>by cases h) (λi c v h=>by cases h)
   |1=>cases ha;exact C9
   |i+2=>cases ha
  |false=>match i with
   |0=>cases ha;exact C9
   |i+1=>cases ha) (b.atR ⟨D6,ds⟩ (.inRegion o5 [4,5,6]::items)) cs
 have T4:=rF (P:=Tryz.prog) (w:=w1) (w':=w1) (b:=b) (ds:=ds) (k:=items) (yb (by omega)) i4 (λc e=>by cases e) (by
  have h1:D6[18]?.getD undef=CM.fnU g m:=by simpa using e18'
  have h2:D6[19]?.getD undef=vx:=by simpa using OI
  obtain⟨F,hF,DN⟩:=hp.1;have P6:=mr g F hF DN
  have EP:¬F.body=none:=by
   intro hn;rw[hn] at DN;cases DN
  cases m<;>simp[execOp,resolve,Deferred.ofValue,invoke,callFunc,CM.fnU,h1,h2,hF,EP,P6,go_sem]) S4
 have A5:=A4.fr F2 W2
 have R5:Rel Tryz.prog ans B0 w2 Z2 J ow (ans 18) (sl (ans 18) (JO nm xs .dead) ⟨[(20,.val r.enc)],⟨[zV,zE],0⟩⟩) (D6.setIfInBounds 20 v) [zV,zE]:=by
  have:=A5.rel.write 20 (.val r.enc) v (by rw[nt];omega) (λt o e=>absurd e (A5.nr.tlook _ _ _ _)) (λu o e=>by cases e) (λcs e=>by cases e) Z2.le_refl (aI _) A5.rel.wsat (λt _ _=>Same.refl _ _ _ _ _) (.val _ v (hv.mono (HT.le_refl _) (pre_nil _))) A5.rel.objs A5.rel.lt (Ae _)
  rw[show sl (ans 18) (JO nm xs .dead) ⟨[(20,.val r.enc)],⟨[zV,zE],0⟩⟩=upd (sl (ans 18) (JO nm xs .dead) ⟨[],⟨[zV,zE],0⟩⟩) 20 (.val r.enc) from dS (ans 18).keep (JO nm xs .dead) ⟨[],⟨[zV,zE],0⟩⟩ 20 (.val r.enc)];exact this
 obtain⟨sc,VZ,WK⟩:=s56 nm xs r;have hk:=VZ (λv rs=>rC (.pan v) ⟨JO nm xs .dead,rs.sto⟩) (λrs=>rC .norm ⟨commit (ans 18).keep (JO nm xs .dead) rs.sc,rs.sto⟩);simp only[WK] at hk;rcases o8 (ds:=ds) (b:=b) (items:=items) (cs:=cs) BK A4.nr R5 A4.lo hk with⟨rs',w',Z',J',AP,tmps',a1,a2,a3,a4,a5,a6⟩|⟨x,rs',v,w',Z',J',AP,tmps',ED,a1,a2,a3,a4,a5,a6,a7⟩
 ·simp only[rC,Ak,Bp,Fi] at a1
  have hA:=At.commit (sto:=rs'.sto) A4.nr a2 (by rw[a5.lo];exact Bj A4.lo a5.len) rfl
  have hA:At Tryz.prog ans 18 B0 w' Z' J' AP ⟨JO nm xs (.box (bM r)),⟨[zV,zE],0⟩⟩ tmps':=by
   have a1':(⟨commit (ans 18).keep (JO nm xs .dead) rs'.sc,rs'.sto⟩:St)=⟨JO nm xs (.box (bM r)),⟨[zV,zE],0⟩⟩:=a1;rw[<-a1'];exact hA
  refine⟨w',Z',J',AP,tmps',hA,(F1.any.trans F2.any).trans a3,a4,SR.trans ?_⟩;subst htm1 htm2 htm3 htm4;exact T0.trans (T1.trans (T2.trans (T3.trans (T4.trans (a6.trans (.one stepR_region_end))))))
 ·simp[rC] at a1
end Go.Proofs.YtdkkaldimefljaaGreatDoor
namespace Go.AM
open Go.RowKit
variable {P:Program}{ans:FuncId->AK}{B0:Nat}
mutual
def TyD.v:TyD->CM.V
 |.mk n al=>.tup (.str n.length (CM.packL n)::TyD.vs al)
def TyD.vs:List TyD->List CM.V
 |[]=>[]
 |t::ts=>t.v::TyD.vs ts
end
theorem TyD.vs_eq(l:List TyD):TyD.vs l=l.map TyD.v:=by
 induction l with
 |nil=>simp[TyD.vs]
 |cons t ts ih=>simp[TyD.vs,ih]
def IK(Z:HT)(B:Nat)(w:World):Nat->HT
 |0=>Z
 |n+1=>λb o c=>IK Z B w n b o c\/(B<=b/\flat c=true/\∃v,w.cell? ⟨b,o,none⟩=some v/\VRel (IK Z B w n) [] c v)
variable {Z:HT}{B:Nat}{w w':World}
theorem mn(n:Nat):(IK Z B w n).le (IK Z B w (n+1)):=λ_ _ _ h=>.inl h
theorem aEV:∀n,Z.le (IK Z B w n)
 |0=>HT.le_refl _
 |n+1=>HT.le_trans (aEV n) (mn n)
theorem aAH:∀(n:Nat){b:Nat},b<B->∀o,IK Z B w n b o=Z b o
 |0,b,_,o=>rfl
 |n+1,b,hb,o=>by
  funext c;have ih:=congrFun (aAH n hb o) c;show(IK Z B w n b o c\/_)=_;rw[ih];exact propext ⟨λh=>h.elim id λh=>absurd h.1 (by omega),.inl⟩
theorem ml(h:WSat Z w):∀n,WSat (IK Z B w n) w
 |0=>h
 |n+1=>⟨h.size8,(ml h n).glob.mono (mn n),h.len5,λb o c e=>by
  rcases e with e|⟨_,h1,v,h2,h3⟩
  ·obtain⟨h1,v,h2,h3⟩:=(ml h n).sat b o c e
   exact⟨h1,v,h2,h3.mono (mn n) (aI _)⟩
  ·exact⟨h1,v,h2,h3.mono (mn n) (aI _)⟩⟩
open CM in
theorem vc{w0:World}{J:Rho}{h:T O}{nx:Q}{f:Nat}(H:HR P w0 J h nx w){o:Q}{off len k b N cap:Nat}{t:T V}{al:List TyD}(ho:J o=some (b,N))(hr:CM.rowAt (h.get O.dead o)=some (k,t))(hk:Nat.ble (off+2*len) k=true)(hc:len<=cap)
  (ih:∀(x:V)(u:Value)(t:TyD),VR J x u->rdTy f h x=t.v->VRel (IK Z w0.heap.size w f) [] t.enc u)
  (e:(List.range len).map (λi=>rdTy f h (.agg [t.get V.undef (qn (off+2*i)),t.get V.undef (qn (off+2*i+1))]))=TyD.vs al) :
  VRel (IK Z w0.heap.size w (f+1)) [] (.slice (TyD.encs al)) (.slice (some ⟨b,off,none⟩) len cap):=by
 rw[TyD.vs_eq] at e;rw[TyD.encs_eq];have hlen:al.length=len:=by have:=Ar List.length e;simpa using this.symm
 have Ny:=Ah hk
 have nN:∃BT B6 ty ex,h.ob o=.row k t BT B6 ty ex:=by
  have:CM.rowAt (h.ob o)=some (k,t):=hr
  unfold CM.rowAt at this
  split at this
  ·rename_i n t' BT B6 ty ex he
   cases this;exact⟨_,_,_,_,he⟩
  ·cases this
 have hB:w0.heap.size<=b:=by
  have:=H.obj o b N ho
  obtain⟨BT,B6,ty,ex,he⟩:=nN;rw[he] at this;cases this with
  |row _ _ _ _ _ _ _ _ vs hb=>exact hb
 refine .slice _ _ _ _ 2 (by simpa using hlen) hc λi x hx=>?_
 rw[Ao,Al] at hx;obtain⟨ti,D0,rfl⟩:=hx;have hi:i<len:=by rw[<-hlen];exact(Ab.1 D0).1
 have ei:rdTy f h (.agg [t.get V.undef (qn (off+2*i)),t.get V.undef (qn (off+2*i+1))])=ti.v:=by
  have:=Ar (λl=>l[i]?) e
  simpa[hi,D0] using this
 obtain⟨v0,g0,r0,k0⟩:=H.cell (off:=off+2*i) ho (.inl nN) (by omega);obtain⟨v1,g1,r1,k1⟩:=H.cell (off:=off+2*i+1) ho (.inl nN) (by omega)
 have hv:VR J (.agg [t.at (off+2*i),t.at (off+2*i+1)]) (.agg ⟨[v0,v1]⟩):=by
  refine .agg _ _ rfl (λc hc=>?_) (λj c v hc hv=>?_)
  ·simp only[Bb,Ce,Eb] at hc
   rcases hc with rfl|rfl<;>assumption
  ·match j with
   |0=>cases hc;cases hv;exact r0
   |1=>cases hc;cases hv;exact r1
   |j+2=>simp at hc
 have EL:=ih _ _ ti hv ei;obtain⟨nm,l⟩:=ti;simp only[TyD.enc] at EL ⊢;obtain⟨c1,c2,c3⟩:=EL.cells;refine⟨rfl,b,off,rfl,λj c hj=>?_⟩
 match j with
 |0 =>
  cases hj;refine .inr ⟨hB,rfl,v0,?_,c3 0 _ _ rfl rfl⟩;rw[show off+i*2+0=off+2*i by omega];exact g0
 |1 =>
  cases hj;refine .inr ⟨hB,rfl,v1,?_,c3 1 _ _ rfl rfl⟩;rw[show off+i*2+1=off+2*i+1 by omega];exact g1
 |j+2=>simp[AVal.cells] at hj
open CM in
theorem uz{w0:World}{J:Rho}{h:T O}{nx:Q}(H:HR P w0 J h nx w):∀(f:Nat)(x:V)(u:Value)(t:TyD),VR J x u->rdTy f h x=t.v->VRel (IK Z w0.heap.size w f) [] t.enc u
 |0,x,u,⟨nm,al⟩,_,e=>by simp only[rdTy,TyD.v] at e;cases e
 |f+1,x,u,⟨nm,al⟩,hx,e=>by
  have ih:=uz H f;simp only[rdTy,TyD.v] at e
  split at e
  case h_2=>cases e
  rename_i l n s;obtain⟨us,rfl,PI,_⟩:=hx.inv_agg;obtain⟨u0,Ug,rfl,r0,VS⟩:=PI.inv_cons;obtain⟨u1,Uf,rfl,r1,VQ⟩:=VS.inv_cons;obtain rfl:=VQ.inv_nil;obtain⟨s1,rfl,hl,hn⟩:=r0.inv_str
  have fin:∀{rest:List V},V.tup (.str l n::rest)=.tup (.str nm.length (packL nm)::TyD.vs al)->s1=nm/\rest=TyD.vs al:=λh=>by
   simp only[V.tup.injEq,Cz,V.str.injEq] at h;exact⟨pA (by rw[hl,h.1.1]) (by rw[hn,h.1.2]),h.2⟩
  have done:s1=nm->VRel (IK Z w0.heap.size w (f+1)) [] (.slice (TyD.encs al)) u1->VRel (IK Z w0.heap.size w (f+1)) [] (TyD.mk nm al).enc (.agg ⟨[.string ⟨⟨s1⟩⟩,u1]⟩):=λh1 h2=>by
   subst h1;simp only[TyD.enc];refine .agg _ _ rfl (λi c hc=>?_) (λi c v hc hv=>?_)
   ·match i with
    |0=>cases hc;rfl
    |1=>cases hc;rfl
    |i+2=>simp at hc
   ·match i with
    |0=>cases hc;cases hv;exact .str _
    |1=>cases hc;cases hv;exact h2
    |i+2=>simp at hc
  have empty:[]=TyD.vs al->al=[]:=λh=>by
   cases al with
   |nil=>rfl
   |cons a l=>simp[TyD.vs] at h
  split at e
  ·obtain⟨h1,h2⟩:=fin e
   obtain rfl:=empty h2;cases r1;exact done h1 (.slice _ _ _ _ 2 rfl (Ae _) λi x hx=>by simp[TyD.encs] at hx)
  ·obtain⟨h1,h2⟩:=fin e
   obtain rfl:=empty h2;cases r1;exact done h1 (.slice _ _ _ _ 2 rfl (En _) λi x hx=>by simp[TyD.encs] at hx)
  ·rename_i o off len cap
   split at e
   case h_2=>cases e
   rename_i k t hr
   split at e
   case h_2=>cases e
   rename_i hk;obtain⟨h1,h2⟩:=fin e;cases r1 with
   |sl _ _ _ _ b N ho hc=>exact done h1 (vc H ho hr hk hc ih h2)
  ·rename_i o off len sz
   split at e
   case h_2=>cases e
   rename_i k t hr
   split at e
   case h_2=>cases e
   rename_i hk;obtain⟨h1,h2⟩:=fin e;cases r1 with
   |su _ _ _ _ b N cap ho hc CX=>exact done h1 (vc H ho hr hk hc ih h2)
  ·cases e
end Go.AM
namespace Go.Proofs.YtdkkaldimefljaaGreatDoor
open Go.AM Go.RowKit
theorem qg{P:Program}{w w':World}{J:CM.Rho}{h:CM.T CM.O}{nx:CM.Q}(H:CM.HR P w J h nx w'):Below w.heap.size w w':=⟨H.os,H.tape,H.output,H.size,H.old⟩
theorem aF8{s:List UInt8}{vs:Array Value}{Z:HT}(hl:[AVal.str s].length=vs.size)(ha:∀(i:Nat) a,[AVal.str s][i]?=some a->VRel Z [] a (vs.getD i undef)):vs=⟨[.string ⟨⟨s⟩⟩]⟩:=by
 obtain⟨vs⟩:=vs
 match vs,hl with
 |[v],_ =>
  have:=ha 0 _ rfl
  cases this;rfl
theorem aF9(s:List UInt8)(J:CM.Rho):CM.VRs J [.str s.length (CM.packL s)] [.string ⟨⟨s⟩⟩]:=.cons (.str _ _ s rfl rfl) .nil
theorem aFR{f:Nat}{s:List UInt8}{b:Bool}(hF:∃F,Tryz.prog.funcs[f]?=some F/\F.body.isSome=true)(hc:CM.isMk (CM.compF Tryz.prog f)=true)(e:CM.runF CM.fe26 1000 (CM.qn f) [.str s.length (CM.packL s)] (CM.qn 8)=.ok (.bool b)):PureOK Tryz.prog f [.str s] (.bool b):=by
 refine⟨hF,λw Z vs hw hl ha c cs=>?_⟩;obtain rfl:=aF8 hl ha;obtain⟨w',J',h',nx',u,x,h1,h2,h3,h4⟩:=CM.call26 (n:=999) hc (aF9 s) e w hw.size8 c cs;rw[CM.fin_bool h4] at h3;rw[h3.inv_bool] at h1;have hb:=qg h2;exact⟨w',Z,.bool b,nI hb,eH hw hb,.bool _,h1⟩
theorem aMD{f:Nat}{s:List UInt8}{t:TyD}{b:Bool}(hF:∃F,Tryz.prog.funcs[f]?=some F/\F.body.isSome=true)(hc:CM.isMk (CM.compF Tryz.prog f)=true)(e:CM.runF CM.fe26 1000 (CM.qn f) [.str s.length (CM.packL s)] (CM.qn 8)=.ok (.tup [t.v,.bool b])):PureT Tryz.prog f [.str s] [t.enc,.bool b]:=by
 refine⟨hF,λw Z vs hw hl ha c cs=>?_⟩;obtain rfl:=aF8 hl ha;obtain⟨w',J',h',nx',u,x,h1,h2,h3,h4⟩:=CM.call26 (n:=999) hc (aF9 s) e w hw.size8 c cs
 have hx:∃ty,x=.tup [ty,.bool b]/\CM.rdTy 12 h' ty=t.v:=by
  unfold CM.fin at h4
  split at h4
  ·rename_i ty b'
   simp only[CM.V.tup.injEq,Cz,Fs] at h4;exact⟨ty,by rw[h4.2],h4.1⟩
  ·split at h4
   ·rename_i es _
    simp only[CM.V.tup.injEq] at h4;have h5:=Ar (λl=>l[1]?) h4;simp only[Ao,Ep,Ft,Al] at h5;obtain⟨p,_,h5⟩:=h5;cases h5
   ·cases h4
  ·cases h4
  ·cases h4
  ·cases h4
 obtain⟨ty,rfl,hrd⟩:=hx;obtain⟨us,rfl,r1⟩:=h3.inv_tup;obtain⟨u0,Ug,rfl,r0,r1⟩:=r1.inv_cons;obtain⟨u1,Uf,rfl,rb,r1⟩:=r1.inv_cons;obtain rfl:=r1.inv_nil;have hb:=qg h2;have C4:=eH hw hb;have EL:=uz (Z:=Z) h2 12 ty u0 t r0 hrd;refine⟨w',IK Z w.heap.size w' 12,[u0,u1],⟨aEV 12,hb.size,λb AR _=>⟨hb.block b AR,λo=>aAH 12 AR o⟩,λb hb=>absurd rfl hb,hb.os,hb.tape,hb.output⟩,ml C4 12,rfl,λi a u h5 h6=>?_,h1⟩
 match i with
 |0=>cases h5;cases h6;exact EL
 |1=>cases h5;cases h6;rw[rb.inv_bool];exact .bool _
 |i+2=>simp at h5
theorem pure6:PureOK Tryz.prog 6 [] (.bool true):=by
 refine⟨⟨_,Tryz.func6,by kernel_rfl⟩,λw Z vs hw hl ha c cs=>?_⟩;obtain rfl:vs=#[]:=Array.eq_empty_of_size_eq_zero hl.symm;obtain⟨w',h1,h2,h3,h4,h5,h6⟩:=Go.CM.sane26_ok w hw.size8 c cs;have hb:Below w.heap.size w w':=⟨h4,h5,h6,h2,h3⟩
 exact⟨w',Z,.bool true,nI hb,eH hw hb,.bool _,h1⟩
theorem aRn:CM.isMk (CM.compF Tryz.prog 36)=true:=by kernel_rfl
theorem aRo:CM.isMk (CM.compF Tryz.prog 41)=true:=by kernel_rfl
theorem ao{p:List UInt8->TyD->Prop}(s:List UInt8)(t:TyD)(h:wG s=some t)(hp:∀x∈tyTab,p x.1 x.2):p s t:=by
 unfold wG at h;rw[Al] at h;obtain⟨x,hx,rfl⟩:=h;have h1:=List.find?_some hx
 have:x.1=s:=by simpa using h1
 subst this;exact hp x (List.mem_of_find?_eq_some hx)
theorem aBt:∀x∈tyTab,CM.runF CM.fe26 1000 (CM.qn 36) [.str x.1.length (CM.packL x.1)] (CM.qn 8)=.ok (.tup [x.2.v,.bool true])/\CM.runF CM.fe26 1000 (CM.qn 41) [.str x.1.length (CM.packL x.1)] (CM.qn 8)=.ok (.bool true):=by
 intro x hx;simp only[tyTab,Bb,Ce,Eb] at hx;rcases hx with rfl|rfl|rfl|rfl|rfl|rfl|rfl|rfl|rfl|rfl|rfl|rfl|rfl|rfl|rfl|rfl
 ·exact⟨CM.ty_tree,CM.pl_tree⟩
 ·exact⟨CM.ty_tlist,CM.pl_tlist⟩
 ·exact⟨CM.ty_tmember,CM.pl_tmember⟩
 ·exact⟨CM.ty_tsize,CM.pl_tsize⟩
 ·exact⟨CM.ty_length,CM.pl_length⟩
 ·exact⟨CM.ty_tinsert,CM.pl_tinsert⟩
 ·exact⟨CM.ty_tdepth,CM.pl_tdepth⟩
 ·exact⟨CM.ty_items,CM.pl_items⟩
 ·exact⟨CM.ty_list,CM.pl_list⟩
 ·exact⟨CM.ty_append,CM.pl_append⟩
 ·exact⟨CM.ty_reverse,CM.pl_reverse⟩
 ·exact⟨CM.ty_take,CM.pl_take⟩
 ·exact⟨CM.ty_drop,CM.pl_drop⟩
 ·exact⟨CM.ty_concat,CM.pl_concat⟩
 ·exact⟨CM.ty_zip,CM.pl_zip⟩
 ·exact⟨CM.ty_unzip,CM.pl_unzip⟩
theorem p36(s:List UInt8)(t:TyD)(h:wG s=some t):PureT Tryz.prog 36 [.str s] [t.enc,.bool true] :=
 aMD ⟨_,Tryz.func36,by kernel_rfl⟩ aRn (ao (p:=λs t=>CM.runF CM.fe26 1000 (CM.qn 36) [.str s.length (CM.packL s)] (CM.qn 8)=.ok (.tup [t.v,.bool true])) s t h λx hx=>(aBt x hx).1)
theorem p41(s:List UInt8)(t:TyD)(h:wG s=some t):PureOK Tryz.prog 41 [.str s] (.bool true) :=
 aFR ⟨_,Tryz.func41,by kernel_rfl⟩ aRo (ao (p:=λs _=>CM.runF CM.fe26 1000 (CM.qn 41) [.str s.length (CM.packL s)] (CM.qn 8)=.ok (.bool true)) s t h λx hx=>(aBt x hx).2)
theorem aOC(A:Aps)(B0:Nat)(hK:∀s,PureOK Tryz.prog 157 [.str s] (.int .i64 (A.kd s)))(hA:∀args res,A.ap args=some (some res)->∀sto w Z J ow vs,dW ans B0 w Z J ow args vs sto->∀c cs,eI Tryz.prog ans B0 w Z J ow sto c cs (lone (Frame.enter Tryz.prog 18 vs .normal) (c::cs) w) res sto):Env Tryz.prog ans B0 (@jU A):=aE8 λf args res h=>by
 unfold jU at h;cases QO:Nat.beq f 18 with
 |true =>
  rw[QO] at h;obtain rfl:=Aa QO;exact⟨⟨_,Tryz.func18,by kernel_rfl⟩,hA args res h⟩
 |false =>
 rw[QO] at h;simp only[Aq] at h;cases h6:Nat.beq f 6 with
 |true =>
  rw[h6] at h;obtain rfl:=Aa h6;simp only[Ba] at h
  split at h
  ·cases h
   exact pure6.prim (λa ha=>by simp at ha)
  ·cases h
 |false =>
 rw[h6] at h;simp only[Aq] at h;cases QH:Nat.beq f 36 with
 |true =>
  rw[QH] at h;obtain rfl:=Aa QH;simp only[Ba] at h
  split at h
  ·rename_i s
   simp only[Ak,Al] at h;obtain⟨t,ht,rfl⟩:=h;exact(p36 s t ht).prim (λa ha=>by rw[Bz.1 ha];rfl)
  ·cases h
 |false =>
 rw[QH] at h;simp only[Aq] at h;cases Sm:Nat.beq f 41 with
 |true =>
  rw[Sm] at h;obtain rfl:=Aa Sm;simp only[Ba] at h
  split at h
  ·rename_i s
   simp only[Ak,Al] at h;obtain⟨t,ht,rfl⟩:=h;exact(p41 s t ht).prim (λa ha=>by rw[Bz.1 ha];rfl)
  ·cases h
 |false =>
 rw[Sm] at h;simp only[Aq] at h;cases N7:Nat.beq f 157 with
 |true =>
  rw[N7] at h;obtain rfl:=Aa N7;simp only[Ba] at h
  split at h
  ·rename_i s
   cases h;exact(hK s).prim (λa ha=>by rw[Bz.1 ha];rfl)
  ·cases h
 |false=>rw[N7] at h;cases h
def ij(b4 b5:Nat):Deferred:={ target:=.fn (.func 27) #[.pointer (some ⟨b4,0,none⟩),.pointer (some ⟨b5,0,none⟩)],args:=#[] }
def fr18:Frame:={ (default:Frame) with fn:=18,kind:=.normal,roundOf:=none }
theorem XW(Z:HT)(J:List Nat)(i b:Nat){v:Value}(h:VRel Z J (.loc i 0) v)(hb:J[i]?=some b):v=.pointer (some ⟨b,0,none⟩):=by
 cases h with
 |loc _ _ b' h=>rw[hb] at h;cases h;rfl
theorem aPm{tm:Array Value}{w:World}{b4 b5:Nat}{s v:Value}{n x:Int}{T4 T5:TypeId}(h4:w.heap[b4]?=some (.cells #[s,.int .i64 n,v] T4 (0,0)))(h5:w.heap[b5]?=some (.cells #[.int .i64 x] T5 (0,0)))
  (e4:tm.getD 4 undef=.pointer (some ⟨b4,0,none⟩)) (e5:tm.getD 5 undef=.pointer (some ⟨b5,0,none⟩)) :
  (results Tryz.f18 tm).run Tryz.prog w=.ok (.tuple #[.agg #[s,.int .i64 n,v],.int .i64 x]) w:=by
 have c0:w.cell? ⟨b4,0,none⟩=some s:=(cell_of_heap h4 0).trans rfl;have c1:w.cell? ⟨b4,1,none⟩=some (.int .i64 n):=(cell_of_heap h4 1).trans rfl;have c2:w.cell? ⟨b4,2,none⟩=some v:=(cell_of_heap h4 2).trans rfl;have c5:w.cell? ⟨b5,0,none⟩=some (.int .i64 x):=(cell_of_heap h5 0).trans rfl;have e4':tm[4]?.getD undef=.pointer (some ⟨b4,0,none⟩):=by simpa using e4
 have e5':tm[5]?.getD undef=.pointer (some ⟨b5,0,none⟩):=by simpa using e5
 simp[results,Tryz.results18,e4',e5',go_sem,c0,c1,c2,c5]
theorem aHH{tm:Array Value}{todo:List Item}{w w':World}{b4 b5:Nat}{v:Value}(cs:List Frame)
  (hc:CallsD Tryz.prog 27 #[.pointer (some ⟨b4,0,none⟩),.pointer (some ⟨b5,0,none⟩)] .returning w λe u' w1=>e=.returned (.tuple #[])/\settle u'=.returning/\w1=w')
  (hr:(results Tryz.f18 tm).run Tryz.prog w'=.ok v w') (c:Frame) :
  Steps Tryz.prog (lone { fr18.atR ⟨tm,[ij b4 b5]⟩ todo with mode:=.returning } (c::cs) w) (lone (c.finish v) cs w'):=by
 have hL:Leaves Tryz.prog Tryz.f18 tm (λe w1=>e=.returned v/\w1=w') [ij b4 b5] .returning w:=by
  refine leaves_cons (f:=27) (args:=#[.pointer (some ⟨b4,0,none⟩),.pointer (some ⟨b5,0,none⟩)]) (by simp) (by simp[ij,go_sem]) ?_;refine hc.mono ?_
  rintro e u' w1 ⟨rfl,hs,rfl⟩
  show Leaves _ _ _ _ [] (settle u') w1;rw[hs];exact⟨v,hr,rfl,rfl⟩
 obtain⟨e,w1,Lh,⟨rfl,rfl⟩,hs,_,hl⟩:=leaves_steps [ij b4 b5] .returning w { fr18.atR ⟨tm,[ij b4 b5]⟩ todo with mode:=.returning } (c::cs) rfl rfl rfl Tryz.func18 rfl hL;exact Steps.trans hs (.one (step_leave_returned hl))
variable [Aps]
abbrev Zc(nm:List UInt8)(xs:List AVal)(a b s x y:Slot)(n:Slot):List Slot:=[.val (.str nm),.val (.slice xs),a,b,n,s,x,y]
theorem aDq(E:∀B0,Env Tryz.prog ans B0 jU){nm:List UInt8}{xs:List AVal}{r:VaD}{g:Nat}{m:Bool}{n:Int}(hg:CM.lookTab nm.length (CM.packL nm) CM.fnTab=some (g,m))(hx:lok 0 (.slice xs)=true)(hp:PureOK Tryz.prog g (Yx m xs) r.enc)(hn:n<=4000)(hr:lok 0 r.enc=true)
  (W9:CF (.fn 26) [.val (.str nm),.val (.slice xs)] ⟨[zV,zE],0⟩=some (.ret (.val (.int .i64 0)),⟨[zV,zE],0⟩)) (Sn:CF (.fn 29) [.val r.enc] ⟨[zV,zE],0⟩=some (.ret (.val (.int .i64 n)),⟨[zV,zE],0⟩))
  (JL:CF (.fn 24) [.val r.enc] ⟨[zV,zE],0⟩=some (.ret (.val (.int .i64 0)),⟨[zV,zE],0⟩)) (QM:CF (.fn 22) [.val r.enc] ⟨[zV,zE],0⟩=some (.ret (.val r.enc),⟨[zV,zE],0⟩)) :
  PureT Tryz.prog 18 [.str nm,.slice xs] [r.enc,.int .i64 0]:=by
 refine⟨⟨_,Tryz.func18,by kernel_rfl⟩,λw Z vs hw hl ha c cs=>?_⟩;have BK:kZ Tryz.prog ans w.heap.size CF:=gx (E w.heap.size);have nt:(ans 18).nt=33:=by rw[pM]
 have Jt:=nH (P:=Tryz.prog) (ans:=ans) (f:=18) (lM (ans:=ans) hw (args:=[.val (.str nm),.val (.slice xs)]) (vs:=vs) hl (λx hx=>by
  simp only[Bb,Ce,Eb] at hx;rcases hx with rfl|rfl<;>rfl) (λi x hx=>by
  match i with
  |0=>cases hx;exact .val _ _ (ha 0 _ rfl)
  |1=>cases hx;exact .val _ _ (ha 1 _ rfl)
  |i+2=>simp at hx)) (by rw[nt];show 2<=33;omega)
 have PK:((ans 18).keep.map λt=>(([.val (.str nm),.val (.slice xs)]:List Slot)[t]?).getD .dead)=Zc nm xs .dead .dead .dead .dead .dead .dead:=by rw[pM];rfl
 rw[PK] at Jt
 have henter:Frame.enter Tryz.prog 18 vs .normal=fr18.atR ⟨vs++Array.replicate ((ans 18).nt-vs.size) undef,[]⟩ [.code (.seq p0 (.seq (.seq p1 (.seq p2 (.cond (.tmp 12) Ot .skip))) (.seq p4 (.seq p5 (.seq (.seq p6 (.cond (.tmp 28) KA .skip)) (.seq p8 .ret))))))]:=by
  rw[nt];simp only[Frame.enter,Tryz.func18,Ai,aQJ,Tryz.ntmps18,Frame.atR,fr18];rfl
 rw[henter];obtain⟨w0,Z0,J0,SL,D7,A0,F0,p0',_,S0⟩:=kV (ds:=[]) (b:=fr18) (cs:=c::cs) (items:=[.code (.seq (.seq p1 (.seq p2 (.cond (.tmp 12) Ot .skip))) (.seq p4 (.seq p5 (.seq (.seq p6 (.cond (.tmp 28) KA .skip)) (.seq p8 .ret)))))]) BK (hp0 nm xs) Jt;obtain⟨w1,Z1,J1,BX,G8,A1,F1,SK,_,S1⟩:=kV (ds:=[]) (b:=fr18) (cs:=c::cs) (items:=[.code (.seq p2 (.cond (.tmp 12) Ot .skip)),.code (.seq p4 (.seq p5 (.seq (.seq p6 (.cond (.tmp 28) KA .skip)) (.seq p8 .ret))))]) BK (PZ nm xs W9) A0;obtain⟨w2,Z2,J2,CJ,CU,A2,F2,p2',_,S2⟩:=kV (ds:=[]) (b:=fr18) (cs:=c::cs) (items:=[.code (.cond (.tmp 12) Ot .skip),.code (.seq p4 (.seq p5 (.seq (.seq p6 (.cond (.tmp 28) KA .skip)) (.seq p8 .ret))))]) BK (h2 nm xs) A1
 have c12:CU.getD 12 undef=.bool false:=by
  have:=A2.rel.slots 12
  rw[pM] at this;generalize CU.getD 12 undef=u at this;cases this with
  |val _ _ h=>cases h;rfl
 have BG:CU.size=33:=A2.rel.size.trans nt;obtain⟨b4,r4,_⟩:=A2.rel.objs.2 0 _ rfl;obtain⟨b5,r5,_⟩:=A2.rel.objs.2 1 _ rfl
 have loc:∀(t i:Nat),sl (ans 18) (Zc nm xs (.val (.loc 0 0)) (.val (.loc 1 0)) .dead (.val (.bool false)) .dead (.val (.int .i64 0))) ⟨[],⟨[zV,zE],0⟩⟩ t=.val (.loc i 0)->∀b,J2[i]?=some b->CU.getD t undef=.pointer (some ⟨b,0,none⟩):=λt i e b hb=>by
  have:=A2.rel.slots t
  rw[show sl (ans 18) _ _ t=Slot.val (.loc i 0) from e] at this;generalize CU.getD t undef=u at this;cases this with
  |val _ _ h=>exact XW _ _ _ _ h hb
 have v4:=loc 4 0 (by rw[pM];rfl) b4 r4;have v5:=loc 5 1 (by rw[pM];rfl) b5 r5;obtain⟨e3,a3,w3,⟨rfl,rfl,ht,hd⟩,S3⟩:=aPj CU BG w2 fr18 [.code (.seq p5 (.seq (.seq p6 (.cond (.tmp 28) KA .skip)) (.seq p8 .ret)))] (c::cs);rw[v4,v5] at ht hd;have A3:=nC A2 15 (.func (.func 27) #[] #[.pointer (some ⟨b4,0,none⟩),.pointer (some ⟨b5,0,none⟩)]) (by rw[nt];omega) (by rw[pM];rfl);obtain⟨w4,Z4,J4,HA,D6,A4,F4,p4',S4⟩:=aRH E hg hx hp (ds:=[ij b4 b5]) (b:=fr18) (cs:=c::cs) (items:=[.code (.seq (.seq p6 (.cond (.tmp 28) KA .skip)) (.seq p8 .ret))]) A3;obtain⟨w5,Z5,J5,ow5,Nn,A5,F5,p5',_,S5⟩:=kV (ds:=[ij b4 b5]) (b:=fr18) (cs:=c::cs) (items:=[.code (.cond (.tmp 28) KA .skip),.code (.seq p8 .ret)]) BK (h6 nm xs r n (by simpa using hn) Sn JL) A4
 have c28:Nn.getD 28 undef=.bool false:=by
  have:=A5.rel.slots 28
  rw[pM] at this;generalize Nn.getD 28 undef=u at this;cases this with
  |val _ _ h=>cases h;rfl
 obtain⟨w6,Z6,J6,ow6,Oe,A6,F6,p6',_,S6⟩:=kV (ds:=[ij b4 b5]) (b:=fr18) (cs:=c::cs) (items:=[.code .ret]) BK (h8 nm xs r QM) A5;have q4:J6[0]?=some b4:=p6' 0 b4 (p5' 0 b4 (p4' 0 b4 r4));have q5:J6[1]?=some b5:=p6' 1 b5 (p5' 1 b5 (p4' 1 b5 r5));have Kp:=A6.rel.slots 4;have Ui:=A6.rel.slots 5;rw[pM] at Kp Ui
 have u4:Oe.getD 4 undef=.pointer (some ⟨b4,0,none⟩):=by
  generalize Oe.getD 4 undef=u at Kp;cases Kp with
  |val _ _ h=>exact XW _ _ _ _ h q4
 have u5:Oe.getD 5 undef=.pointer (some ⟨b5,0,none⟩):=by
  generalize Oe.getD 5 undef=u at Ui;cases Ui with
  |val _ _ h=>exact XW _ _ _ _ h q5
 obtain⟨k4,e4,o4⟩:=A6.rel.objs.2 0 _ rfl;obtain rfl:k4=b4:=Ap (e4.symm.trans q4);obtain⟨k5,e5,SM⟩:=A6.rel.objs.2 1 _ rfl;obtain rfl:k5=b5:=Ap (e5.symm.trans q5);have hc:=VaD.enc_eq r;simp only[bM] at o4;unfold zE at SM;cases o4 with
 |box _ _ o4 =>
 cases SM with
 |box _ _ SM =>
 obtain⟨us,T4,g4,l4,m4⟩:=o4.heap;obtain⟨us5,T5,g5,l5,m5⟩:=SM.heap
 match us,l4 with
 |[s0,s1,s2],_ =>
 match us5,l5 with
 |[x0],_ =>
 have y0:=m4 0 _ _ rfl rfl;have y1:=m4 1 _ _ rfl rfl;have y2:=m4 2 _ _ rfl rfl;have z0:=m5 0 _ _ rfl rfl;cases y0 with
 |val _ _ _ y0 =>
 cases y1 with
 |val _ _ _ y1 =>
 cases y2 with
 |val _ _ c2 y2 =>
 cases z0 with
 |val _ _ _ z0 =>
 cases y1;cases z0
 have hv:VRel Z6 (List.take (0+1) J6) r.enc (.agg ⟨[s0,.int .i64 r.num,s2]⟩):=by
  rw[hc];refine .agg _ _ rfl (λi c h=>?_) (λi c v h1 h2=>?_)
  ·match i with
   |0=>cases h;rfl
   |1=>cases h;rfl
   |2=>cases h;rfl
   |i+3=>cases h
  ·match i with
   |0=>cases h1;cases h2;exact y0
   |1=>cases h1;cases h2;exact .int _ _
   |2=>cases h1;cases h2;exact y2
   |i+3=>cases h1
 have FW:=hv.lok hr;have L:=aHH (tm:=Oe) (todo:=[.code .ret]) cs ((qu (.pointer (some ⟨k4,0,none⟩)) (.pointer (some ⟨k5,0,none⟩)) w6).mono λe u' w1 ⟨h1,h2,h3⟩=>⟨h1,by rw[h2];rfl,h3⟩) (aPm g4 g5 u4 u5) c;have FF:=((((F0.trans F1).trans F2).trans F4).trans F5).trans F6;refine⟨w6,Z6,[.agg ⟨[s0,.int .i64 r.num,s2]⟩,.int .i64 0],⟨FF.le,FF.size,FF.keep,λb hb=>absurd rfl hb,FF.os,FF.tape,FF.output⟩,A6.rel.wsat,rfl,λi x u h1 h2=>?_,?_⟩
 ·match i with
  |0=>cases h1;cases h2;exact FW
  |1=>cases h1;cases h2;exact .int _ _
  |i+2=>cases h1
 ·obtain⟨t3,d3⟩:=a3
  simp only at ht hd;subst ht hd;have S3':Steps Tryz.prog (lone (fr18.atR ⟨CU,[]⟩ [.code p4,.code (.seq p5 (.seq (.seq p6 (.cond (.tmp 28) KA .skip)) (.seq p8 .ret)))]) (c::cs) w3) (lone (fr18.atR ⟨CU.setIfInBounds 15 (.func (.func 27) #[] #[.pointer (some ⟨k4,0,none⟩),.pointer (some ⟨k5,0,none⟩)]),[ij k4 k5]⟩ [.code (.seq p5 (.seq (.seq p6 (.cond (.tmp 28) KA .skip)) (.seq p8 .ret)))]) (c::cs) w3):=S3
  have NQ:∀{tm:Array Value}{ds:List Deferred}{k:Nat}{W:World}{a b:Code}{items:List Item},tm.getD k undef=.bool false->Steps Tryz.prog (lone (fr18.atR ⟨tm,ds⟩ (.code (.cond (.tmp k) a b)::items)) (c::cs) W) (lone (fr18.atR ⟨tm,ds⟩ (.code b::items)) (c::cs) W):=by
   intro tm ds k W a b items h
   have:=stepR_cond (P:=Tryz.prog) (b:=fr18) (a:=⟨tm,ds⟩) (k:=items) (cs:=c::cs) (w:=W) (c:=.tmp k) (x:=a) (y:=b) (t:=false) h
   exact Steps.one (by simpa using this)
  refine(Steps.one stepR_seq).trans (S0.trans ((Steps.one stepR_seq).trans ((Steps.one stepR_seq).trans (S1.trans ((Steps.one stepR_seq).trans (S2.trans ((NQ c12).trans ((Steps.one stepR_skip).trans ((Steps.one stepR_seq).trans (S3'.trans ((Steps.one stepR_seq).trans (S4.trans ((Steps.one stepR_seq).trans ((Steps.one stepR_seq).trans (S5.trans ((NQ c28).trans ((Steps.one stepR_skip).trans ((Steps.one stepR_seq).trans (S6.trans ((Steps.one (stepR_ret rfl)).trans L))))))))))))))))))))
end Go.Proofs.YtdkkaldimefljaaGreatDoor
