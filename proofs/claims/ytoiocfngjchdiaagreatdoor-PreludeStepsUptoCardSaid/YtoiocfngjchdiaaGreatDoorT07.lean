import Derived.Test.YtoiocfngjchdiaaGreatDoorT06
set_option linter.all false
set_option maxRecDepth 100000
set_option maxHeartbeats 8000000
namespace Go.Proofs.YtoiocfngjchdiaaGreatDoor
open Go.AM
section
open Go.RowKit
variable [Aps]
theorem ny(p:Value)(w:World):CallsD Tryz.prog 101 #[p] .returning w λe u' w'=>e=.returned (.tuple #[])/\u'=.returning/\w'=w:=by
 refine callsD_of_wpS Tryz.func101 rfl λc₀ cs hu=>?_
 apply wpS_seq;apply wpS_region;simp[wpOpsS,go_sem,Nat.reduceAdd,reduceIte,recoverD,hu,Tryz.ntmps101,Exit.thenS];refine wpS_of_wp ?_
 go_wp2
 cases c₀
 simp_all [bodyPostS,results,Tryz.results101]
noncomputable abbrev Rj(cf:aJ)(B0:Nat)(cs:List Frame)(ds:List Deferred):Rc:=⟨Tryz.prog,ans,cf,32,B0,G4 32,cs,ds⟩
def fu(b:Nat):Deferred:={ target:=.fn (.func 101) #[.pointer (some ⟨b,0,none⟩)],args:=#[] }
noncomputable def p32:Code:=match(Tryz.f32.body).getD .skip with
 |.seq _ (.seq b _)=>b
 |c=>c
theorem aTe(tmps:Array Value)(hs:tmps.size=7)(w:World):p32.wp Tryz.prog (λe a w'=>e=.normal/\w'=w/\a.tmps=tmps.setIfInBounds 3 (.func (.func 101) #[] #[tmps.getD 2 undef])/\a.defers=[{ target:=.fn (.func 101) #[tmps.getD 2 undef],args:=#[] }]) ⟨tmps,[]⟩ w:=by
 have hmf:∀(fn:Fn)(first cap:Array Value)(w:World),(Instr.makeFunc fn first cap).run Tryz.prog w=.ok (.func fn first cap) w:=λ_ _ _ _=>rfl
 show(Code.region _ _ _).wp _ _ _ _
 go_wp2
noncomputable def SR:Code:=match(Tryz.f32.body).getD .skip with
 |.seq _ (.seq _ b)=>b
 |c=>c
theorem aBj{B0:Nat}{fid:FuncId}{st:St}{w:World}{Ψ:HT}{J:List Nat}{ow:Own}{tmps:Array Value}(h:At Tryz.prog ans fid B0 w Ψ J ow st tmps)(d:Nat)(v:Value)(hd:d<(ans fid).nt)(hk:tlook (ans fid).keep st.tm d=.dead):At Tryz.prog ans fid B0 w Ψ J ow st (tmps.setIfInBounds d v):=by
 have hE:upd (sl (ans fid) st.tm ⟨[],st.sto⟩) d .dead=sl (ans fid) st.tm ⟨[],st.sto⟩:=by
  funext t;by_cases e:t=d
  ·subst e
   rw[eL];exact hk.symm
  ·rw[bH _ _ e]
 refine⟨?_,h.nr,h.lo⟩
 have:=h.rel.write d .dead v hd (λt o e=>absurd e (h.nr.tlook _ _ _ _)) (λu o e=>by cases e) (λcs e=>by cases e) Ψ.le_refl (aG _) h.rel.wsat (λt _ _=>Same.refl _ _ _ _ _) (.dead v) h.rel.objs h.rel.lt (Af _)
 rw[hE] at this;exact this
theorem aCc{P:Program}{ans:FuncId->AF}{f:FuncId}{fn:Func}{c0:Code}{vs:Array Value}(hF:P.funcs[f]?=some fn)(hb:fn.body=some c0)(Ju:fn.ntmps=(ans f).nt):Frame.enter P f vs .normal=(G4 f).atR ⟨vs++Array.replicate ((ans f).nt-vs.size) undef,[]⟩ [.code c0]:=by
 simp[Frame.enter,Frame.atR,hF,hb,G4,Ju]
abbrev zW:AObj:=.box [.val (.int .i64 0),.val (.int .i64 0)]
theorem aTi (JX:Tryz.f32.name≠ "runtime.NumGoroutine") {cf:aJ} (BQ:∀B0,kI Tryz.prog ans B0 cf) (FN:iC Tryz.prog ans cf) {a b e g:Nat} {O O':List AObj} {lo:Nat} (AP:lo<=O.length) (hlen:O'.length=O.length) (J6:∀i,i<lo->O'[i]?=O[i]?)
  (ha:a<O.length) (hb:b<O.length) (he:e<O.length) (hg:g<O.length) (RE:cf (.fn 33) [.val (.loc a 0),.val (.loc b 0),.val (.loc e 0),.val (.loc g 0)] ⟨O++[zW],lo⟩=some (.ret (.tup []),⟨O'++[zW],lo⟩)) :
  Row Tryz.prog ans 32 [.val (.func 33 [.loc a 0,.loc b 0,.loc e 0,.loc g 0])] ⟨O,lo⟩ (.ret (.val (.agg [.int .i64 0,.int .i64 0]))) ⟨O',lo⟩:=by
 refine⟨⟨_,Tryz.func32,by kernel_rfl,JX⟩,λB0 w Ψ J ow vs BL c cs=>?_⟩;have nt:(ans 32).nt=7:=by rw[QD]
 have Kx:=u4 (P:=Tryz.prog) BL (by rw[nt];show 1<=7;omega);have Kx:At Tryz.prog ans 32 B0 w Ψ J ow ⟨[.val (.func 33 [.loc a 0,.loc b 0,.loc e 0,.loc g 0]),.dead],⟨O,lo⟩⟩ _:=Kx;have H0:(Rj cf B0 (c::cs) []).OK:=⟨BQ B0,FN,rfl⟩
 have h0:Rch (Rj cf B0 (c::cs) []) ⟨[.val (.func 33 [.loc a 0,.loc b 0,.loc e 0,.loc g 0]),.dead],⟨O,lo⟩⟩ [.code ((Tryz.f32.body).getD .skip)] ⟨[.val (.func 33 [.loc a 0,.loc b 0,.loc e 0,.loc g 0]),.val (.loc O.length 0)],⟨O++[zW],lo⟩⟩ [.code p32,.code SR]:=by
  have H:=H0;clear RE J6 hlen;show Rch _ ⟨[_,_],_⟩ [.code (.seq _ _)] _ _;repeat first|with_reducible refine oU ?_|with_reducible refine jD ?_|with_reducible refine fF ?_|with_reducible refine dF ?_|((with_reducible apply jB);(·rfl))|((with_reducible apply oT H);(·(intro _ _;(repeat (apply BN;(·(intro _;simp only[*,go_sem];rfl))));rfl));(·(simp only[go_sem];rfl)))|((with_reducible apply jC H);(·kernel_rfl);(·(intro _ _;(repeat (apply BN;(·(intro _;simp only[*,go_sem];rfl))));rfl));(·(simp only[go_sem];rfl)))|((with_reducible apply Hq);(·(simp only[go_sem];rfl));(·first|rfl|assumption))|((with_reducible apply Hr);(·(simp only[go_sem];rfl));(·first|rfl|assumption))
  exact Rch.refl
 have h2:∀ds,Rch (Rj cf B0 (c::cs) ds) ⟨[.val (.func 33 [.loc a 0,.loc b 0,.loc e 0,.loc g 0]),.val (.loc O.length 0)],⟨O++[zW],lo⟩⟩ [.code SR] ⟨[.val (.func 33 [.loc a 0,.loc b 0,.loc e 0,.loc g 0]),.val (.loc O.length 0)],⟨O'++[zW],lo⟩⟩ [.code .ret]:=λds=>by
  have H:(Rj cf B0 (c::cs) ds).OK:=⟨BQ B0,FN,rfl⟩
  have k1:Nat.ble lo O.length=true:=Ah AP;have o1:∀A,(O'++[A])[O.length]?=some A:=λA=>by rw[<-hlen];simp
  have o2:∀A B,(O'++[A]).set O.length B=O'++[B]:=λA B=>by rw[<-hlen];simp
  clear J6;show Rch _ _ [.code (.seq _ _)] _ _;repeat first|with_reducible refine oU ?_|with_reducible refine jD ?_|with_reducible refine fF ?_|with_reducible refine dF ?_|((with_reducible apply jB);(·rfl))|((with_reducible apply oT H);(·(intro _ _;(repeat (apply BN;(·(intro _;simp only[*,go_sem,Nat.reduceAdd,reduceIte,eY];rfl))));rfl));(·(simp only[go_sem];rfl)))|((with_reducible apply jC H);(·kernel_rfl);(·(intro _ _;(repeat (apply BN;(·(intro _;simp only[*,go_sem,Nat.reduceAdd,reduceIte,eY];rfl))));rfl));(·(simp only[go_sem];rfl)))|((with_reducible apply Hq);(·(simp only[go_sem];rfl));(·first|rfl|assumption))|((with_reducible apply Hr);(·(simp only[go_sem];rfl));(·first|rfl|assumption))
  exact Rch.refl
 obtain⟨w1,Z1,J1,BO,Nw,A1,F1,p1,S1⟩:=h0 w Ψ J ow _ Kx;have A1:At Tryz.prog ans 32 B0 w1 Z1 J1 BO ⟨[.val (.func 33 [.loc a 0,.loc b 0,.loc e 0,.loc g 0]),.val (.loc O.length 0)],⟨O++[zW],lo⟩⟩ Nw:=A1;have BC:Nw.size=7:=A1.rel.size.trans nt;obtain⟨b2,r2,_⟩:=A1.rel.objs.2 O.length zW (by simp)
 have v2:Nw.getD 2 undef=.pointer (some ⟨b2,0,none⟩):=by
  have:=A1.rel.slots 2
  rw[QD] at this;generalize Nw.getD 2 undef=u at this;cases this with
  |val _ _ h=>cases h with
   |loc _ _ b' h=>rw[r2] at h;cases h;rfl
 obtain⟨e3,a3,w3,⟨rfl,rfl,ht,hd⟩,S3⟩:=aTe Nw BC w1 (G4 32) [.code SR] (c::cs);rw[v2] at ht hd;have A3:=aBj A1 3 (.func (.func 101) #[] #[.pointer (some ⟨b2,0,none⟩)]) (by rw[nt];omega) (by rw[QD];rfl);obtain⟨w4,Z4,J4,ow4,WU,A4,F4,p4,S4⟩:=h2 [fu b2] w3 Z1 J1 BO _ A3
 have IC:finish Tryz.prog (ans 32) Tryz.f32 O.length ⟨[.val (.func 33 [.loc a 0,.loc b 0,.loc e 0,.loc g 0]),.val (.loc O.length 0)],⟨O'++[zW],lo⟩⟩=some (.ret (.val (.agg [.int .i64 0,.int .i64 0])),⟨O',lo⟩):=by
  have o1:∀A,(O'++[A])[O.length]?=some A:=λA=>by rw[<-hlen];simp
  have o3:∀A,(O'++[A]).take O.length=O':=λA=>by rw[<-hlen];simp
  have hr:Tryz.f32.results.toList=[.cell 2 89]:=by rw[Tryz.results32]
  simp only[finish,hr,fL,cF,trim,go_sem,Nat.reduceAdd,reduceIte,o1,o3]
 obtain⟨sr,v,J5,ow5,q1,q2,q3,q4,q5,q6,Nz,q7,q8,q9,OA⟩:=rE A4 (by simp[hlen]) IC;cases q1;have Jc:=BL.objs.1;refine⟨w4,Z4,J5,ow5,((F1.trans F4)).trans q6,jN (dT p1 p4) Jc.symm OA,A4.rel.wsat,q5,λb hb=>A4.rel.lt b (Nz b hb),⟨rfl,by show O.length<=O'.length;omega,J6⟩,q2,v,q4,?_⟩
 have hL:Leaves Tryz.prog Tryz.f32 WU (λe w1=>e=.returned v/\w1=w4) [fu b2] .returning w4:=by
  refine leaves_cons (f:=101) (args:=#[.pointer (some ⟨b2,0,none⟩)]) (by simp) (by simp[fu,go_sem]) ?_;refine(ny (.pointer (some ⟨b2,0,none⟩)) w4).mono ?_
  rintro e u' w1 ⟨rfl,hs,rfl⟩
  show Leaves _ _ _ _ [] (settle u') _;rw[hs];exact⟨v,q3,rfl,rfl⟩
 obtain⟨e5,w5,Mf,⟨rfl,rfl⟩,hs5,_,hl⟩:=leaves_steps [fu b2] .returning w4 { (G4 32).atR ⟨WU,[fu b2]⟩ [.code .ret] with mode:=.returning } (c::cs) rfl rfl rfl Tryz.func32 rfl hL;have SL:=Steps.trans hs5 (.one (step_leave_returned hl));obtain⟨t3,d3⟩:=a3;simp only at ht hd;subst ht hd
 have henter:Frame.enter Tryz.prog 32 vs .normal=(G4 32).atR ⟨vs++Array.replicate ((ans 32).nt-vs.size) undef,[]⟩ [.code ((Tryz.f32.body).getD .skip)]:=by
  exact aCc Tryz.func32 rfl rfl
 rw[henter];exact S1.trans (S3.trans (S4.trans ((Steps.one (stepR_ret rfl)).trans SL)))
noncomputable abbrev Wl(cf:aJ)(B0:Nat)(cs:List Frame):Rc:=⟨Tryz.prog,ans,cf,9,B0,G4 9,cs,[]⟩
def gY(O:List AObj)(D:List DeD)(X:AObj)(n:Nat):List AObj:=O++[.box [.val (.slice (D.map DeD.enc))],.box [.val (.slice [])],.box [.val (.int .i64 200000)],X,.box [.val (.int .i64 (n:Nat))],.box [.val (.func 31 [.loc (O.length+4) 0,.loc (O.length+2) 0])],.box [.val (.loc (O.length+5) 0)]]
def jz(D:List DeD):List AObj:=[.box [.val (.slice (D.map DeD.enc))],.box [.val (.slice [])],.box [.val (.int .i64 200000)]]
abbrev N9:AObj:=.box [.own 4 [],.val (.int .i64 0)]
theorem r9{cf:aJ}{B0:Nat}{cs:List Frame}(H:(Wl cf B0 cs).OK)(O:List AObj)(lo:Nat)(AP:lo<=O.length)(D:List DeD)(x:AVal)(n:Nat)
  (RP:cf (.fn 30) [.val (.agg [.slice (D.map DeD.enc)]),.val (.slice [])] ⟨O++jz D,lo⟩=some (.ret (.val (.int .i64 0)),⟨O++jz D,lo⟩))
  (RN:cf (.fn 32) [.val (.func 33 [.loc (O.length+6) 0,.loc O.length 0,.loc (O.length+1) 0,.loc (O.length+3) 0])] ⟨gY O D N9 0,lo⟩=some (.ret (.val (.agg [.int .i64 0,.int .i64 0])),⟨gY O D (.box [.val (.slice [x]),.val (.int .i64 0)]) n,lo⟩)) :
  ∃(M:List AObj)(s0 s1 s2 s3 s4 s5 s8 s9 s10 BI BZ DD BU CR:Slot)(k:List Item),Rch (Wl cf B0 cs) ⟨[.val (.agg [.slice (D.map DeD.enc)]),.val (.slice []),.val (.int .i64 200000),.dead,.dead,.dead,.dead,.dead,.dead,.dead,.dead,.dead,.dead,.dead,.dead,.dead],⟨O,lo⟩⟩ [.code ((Tryz.f9.body).getD .skip)] ⟨[s0,s1,s2,s3,s4,s5,.box [.val (.slice [x]),.val (.int .i64 (n:Nat))],.val (.int .i64 0),s8,s9,s10,BI,BZ,DD,BU,CR],⟨O++M,lo⟩⟩ (.code .ret::k):=by
 have k1:∀i,Nat.ble lo (O.length+i)=true:=λi=>Ah (by omega)
 have kb:∀i,Nat.ble O.length (O.length+i)=true:=λi=>Ah (by omega)
 have kb0:Nat.ble O.length O.length=true:=Ah (Af _);have k0:Nat.ble lo O.length=true:=Ah AP;simp only[gY,Int.natCast_zero] at RN;simp only[jz] at RP;clear AP;apply Exists.intro;iterate 14 apply Exists.intro
 apply Exists.intro;show Rch _ _ [.code (.seq _ _)] _ _;repeat first|with_reducible refine oU ?_|with_reducible refine jD ?_|with_reducible refine fF ?_|with_reducible refine dF ?_|((with_reducible apply jB);(·rfl))|((with_reducible apply oT H);(·(intro _ _;(repeat (apply BN;(·(intro _;simp only[*,go_sem,Nat.reduceAdd,reduceIte,FL,FO,eY];rfl))));rfl));(·(simp only[go_sem];rfl)))|((with_reducible apply jC H);(·kernel_rfl);(·(intro _ _;(repeat (apply BN;(·(intro _;simp only[*,go_sem,Nat.reduceAdd,reduceIte,FL,FO,eY];rfl))));rfl));(·(simp only[go_sem];rfl)))|((with_reducible apply Hq);(·(simp only[go_sem];rfl));(·first|rfl|assumption))|((with_reducible apply Hr);(·(simp only[go_sem];rfl));(·first|rfl|assumption))
 exact Rch.refl;all_goals exact .dead
theorem jE(O:List AObj)(D:List DeD)(X:AObj)(n:Nat):(gY O D X n).length=O.length+7:=by simp[gY]
theorem xu{O:List AObj}{D:List DeD}{X:AObj}{n i:Nat}(h:i<O.length):(gY O D X n)[i]?=O[i]?:=by simp[gY,Az h]
theorem aD3{O:List AObj}{D:List DeD}{X:AObj}{n:Nat}(i:Nat)(M:List AObj):(gY O D X n++M)[O.length+i]?=(([.box [.val (.slice (D.map DeD.enc))],.box [.val (.slice [])],.box [.val (.int .i64 200000)],X,.box [.val (.int .i64 (n:Nat))],.box [.val (.func 31 [.loc (O.length+4) 0,.loc (O.length+2) 0])],.box [.val (.loc (O.length+5) 0)]]:List AObj)++M)[i]?:=by
 unfold gY;rw[Aj,Bi (by omega)];congr 1;omega
theorem ld(O:List AObj)(D:List DeD)(X:AObj)(n m:Nat)(M:List AObj):AW (gY O D X n++M) (O.length+4) m=gY O D X m++M:=by
 unfold AW gY;simp[Ej]
theorem aD6(O:List AObj)(D:List DeD)(X Y:AObj)(n:Nat)(M:List AObj):(gY O D X n++M).set (O.length+3) Y=gY O D Y n++M:=by
 unfold gY;simp[Ej]
theorem aZc(E:∀B0,Env Tryz.prog ans B0 kD)(ys:List DeD)(hy:∀y∈ys,iw y)(nm:List UInt8)(e:ExD)(v:VaD)(n:Nat)(hn:n<=200000)(FX:Ev e (mS ys .nil .nil).2 (toIt v) n)(hv:v.okI=true)(LV:v.cnt<=4000)(hb:(ys++[cU nm e]).length<1000)
  (RP:∀sto:AH,sto.lo<=sto.objs.length->Row Tryz.prog ans 30 [.val (.agg [.slice ((ys++[cU nm e]).map DeD.enc)]),.val (.slice [])] sto (.ret (.val (.int .i64 0))) sto) (O:List AObj) (lo:Nat) (AP:lo<=O.length) :
  Row Tryz.prog ans 9 [.val (.agg [.slice ((ys++[cU nm e]).map DeD.enc)]),.val (.slice []),.val (.int .i64 200000)] ⟨O,lo⟩ (.ret (.tup [.agg [.slice [FC nm v],.int .i64 (n:Nat)],.int .i64 0])) ⟨O,lo⟩:=by
 have g:=λi X m=>aD3 (O:=O) (D:=ys++[cU nm e]) (X:=X) (n:=m) i [zW]
 have hR:RunOK (gY O (ys++[cU nm e]) N9 0++[zW]) (O.length+5) (O.length+4) (O.length+2) 200000 lo :=
  ⟨by simp[gY],g 5 _ _,g 2 _ _,by omega,by omega,by omega,by decide⟩
 have UA:=aTj E (s:=0) (n:=n) (ip:=O.length) (iv:=O.length+6) (ii:=O.length+1) (io:=O.length+3) hR (by omega) ys hy nm e v FX hv LV hb (by omega) (g 0 _ _) (g 6 _ _) (g 1 _ _) (g 3 _ _) (by omega) (by omega) (by omega) (by omega) (by simp[gY]);rw[aD6,ld,ld,Bo] at UA
 have RN:=aTi ((E 0).names 32 _ Tryz.func32 rfl) (cf:=H6 CF 33 [.val (.loc (O.length+6) 0),.val (.loc O.length 0),.val (.loc (O.length+1) 0),.val (.loc (O.length+3) 0)] ⟨gY O (ys++[cU nm e]) N9 0++[zW],lo⟩ (.ret (.tup []),⟨gY O (ys++[cU nm e]) (.box [.val (.slice [FC nm v]),.val (.int .i64 0)]) n++[zW],lo⟩))
  (λB0=>ai (tC (E B0)) UA) (oa (by kernel_rfl) pE (by show(ans 33).prim=false;rw[Yy])) (O:=gY O (ys++[cU nm e]) N9 0) (O':=gY O (ys++[cU nm e]) (.box [.val (.slice [FC nm v]),.val (.int .i64 0)]) n) (lo:=lo) (by rw[jE];omega) (by rw[jE,jE]) (λi hi=>by rw[xu (by omega),xu (by omega)]) (by rw[jE];omega) (by rw[jE];omega) (by rw[jE];omega) (by rw[jE];omega) (sZ _ _ _ _ _)
 have Ou:=RP ⟨O++jz (ys++[cU nm e]),lo⟩ (by simp;omega)
 refine rowOf (cf:=H6 (H6 CF 30 [.val (.agg [.slice ((ys++[cU nm e]).map DeD.enc)]),.val (.slice [])] ⟨O++jz (ys++[cU nm e]),lo⟩ (.ret (.val (.int .i64 0)),⟨O++jz (ys++[cU nm e]),lo⟩)) 32 [.val (.func 33 [.loc (O.length+6) 0,.loc O.length 0,.loc (O.length+1) 0,.loc (O.length+3) 0])] ⟨gY O (ys++[cU nm e]) N9 0,lo⟩ (.ret (.val (.agg [.int .i64 0,.int .i64 0])),⟨gY O (ys++[cU nm e]) (.box [.val (.slice [FC nm v]),.val (.int .i64 0)]) n,lo⟩))
  Tryz.func9 rfl ((E 0).names 9 _ Tryz.func9 rfl) rfl rfl ⟨rfl,Af _,λ_ _=>rfl⟩ λB0 cs=>?_
 have p30:(ans 30).prim=false:=by kernel_rfl
 obtain⟨M,s0,s1,s2,s3,s4,s5,s8,s9,s10,BI,BZ,DD,BU,CR,k,hr⟩:=r9 (cf:=H6 (H6 CF 30 [.val (.agg [.slice ((ys++[cU nm e]).map DeD.enc)]),.val (.slice [])] ⟨O++jz (ys++[cU nm e]),lo⟩ (.ret (.val (.int .i64 0)),⟨O++jz (ys++[cU nm e]),lo⟩)) 32 [.val (.func 33 [.loc (O.length+6) 0,.loc O.length 0,.loc (O.length+1) 0,.loc (O.length+3) 0])] ⟨gY O (ys++[cU nm e]) N9 0,lo⟩ (.ret (.val (.agg [.int .i64 0,.int .i64 0])),⟨gY O (ys++[cU nm e]) (.box [.val (.slice [FC nm v]),.val (.int .i64 0)]) n,lo⟩))
  (B0:=B0) (cs:=cs) ⟨ai (ai (tC (E B0)) Ou) RN,oa (by kernel_rfl) (ft pE p30) (by show(ans 32).prim=false;rw[QD]),rfl⟩ O lo AP (ys++[cU nm e]) (FC nm v) n ((y0 (by decide)).trans (sZ _ _ _ _ _)) (sZ _ _ _ _ _)
 refine⟨_,_,hr,.inr ⟨_,rfl⟩,by simp,?_⟩;have B6:Tryz.f9.results.toList=[.cell 6 36,.tmp 7]:=by rw[Tryz.results9]
 have o3:(O++M).take O.length=O:=by simp
 clear hr Ou RN UA hR g RP FX;generalize FC nm v=x;simp only[finish,B6,fL,cF,trim,go_sem,Nat.reduceAdd,reduceIte,o3]
end
section
variable [Aps]
def oS:List UInt8:=[111]
theorem c20(lib:List DeD)(Ih:Aps.pg=.agg [.slice (lib.map DeD.enc)])(S:AH):CF (.fn 20) [.val (.str [])] S=some (.ret (.tup [.agg [.slice (lib.map DeD.enc)],.int .i64 0,.int .i64 0]),S):=by
 refine NM (r:=.ret (.tup [.agg [.slice (lib.map DeD.enc)],.int .i64 0,.int .i64 0])) ?_ rfl;show some (some (ARes.ret (.tup [Aps.pg,.int .i64 0,.int .i64 0])))=_;rw[Ih]
theorem c7(lib:List DeD)(Ih:Aps.pg=.agg [.slice (lib.map DeD.enc)])(hl:lib.length<=59)(BD:lib≠[])(nm:List UInt8)(xs:List AVal)(x:ExD)(sto:AH)(RT:CF (.fn 22) [.val (.str nm),.val (.slice xs)] sto=some (.ret (.tup [x.enc,.int .i64 0]),sto))
  (Jd:CF (.fn 23) [.val (.agg [.slice ((lib++[cU oS x]).map DeD.enc)])] sto=some (.ret (.val (.int .i64 0)),sto)) :
  CF (.fn 7) [.val (.str nm),.val (.slice xs)] sto=some (.ret (.tup [.agg [.slice ((lib++[cU oS x]).map DeD.enc)],.bool true]),sto):=by
 have RU:=c20 lib Ih sto
 have B7:(lib.map DeD.enc).all (λy=>Nat.beq y.cells.length 14)=true:=by
  rw[As];intro y hy;obtain⟨n,_,rfl⟩:=Cm.1 hy;rfl
 have hhd:bh 14 (lib.map DeD.enc)=true:=by
  cases lib with
  |nil=>rfl
  |cons a l=>rfl
 have Kg:Nat.ble lib.length room=true:=Ah (by unfold room;omega);have Hy:Nat.ble (lib.length+1) room=true:=Ah (by unfold room;omega)
 have e1:(lib++[cU oS x]).map DeD.enc=lib.map DeD.enc++[.agg [.int .i64 5,.str [],.slice [],.slice [],.str oS,.str [],.slice [],.slice [],.int .i64 x.kind,.int .i64 x.num,.str x.name,.str x.arg,.slice (x.args.map ExD.enc),.slice (x.pats.map PaD.enc)]]:=by
  rw[Fs];rfl
 rw[e1] at Jd ⊢;rw[x.enc_eq] at RT;simp only[oS] at Jd ⊢;generalize hL:lib.map DeD.enc=L at *;have hlen:L.length=lib.length:=by rw[<-hL];simp
 clear e1 Ih hl BD hL;exact B9
theorem c15(P:AVal)(nm:List UInt8)(xs:List AVal)(v:VaD)(n:Nat)(sto:AH)(hP:∃D,P=.agg [.slice D])(h7:CF (.fn 7) [.val (.str nm),.val (.slice xs)] sto=some (.ret (.tup [P,.bool true]),sto))
  (h9:CF (.fn 9) [.val P,.val (.slice []),.val (.int .i64 200000)] sto=some (.ret (.tup [.agg [.slice [FC oS v],.int .i64 (n:Nat)],.int .i64 0]),sto)) :
  CF (.fn 15) [.val (.str nm),.val (.slice xs)] sto=some (.ret (.tup [v.enc,.int .i64 (n:Nat),.bool true]),sto):=by
 obtain⟨D,rfl⟩:=hP;rw[v.enc_eq];simp only[FC] at h9;exact wk
theorem c14(nm:List UInt8)(xs:List AVal)(v:VaD)(n:Nat)(most:Int)(sto:AH)(hm:decide (((n:Nat):Int)<=most)=true)(h15:CF (.fn 15) [.val (.str nm),.val (.slice xs)] sto=some (.ret (.tup [v.enc,.int .i64 (n:Nat),.bool true]),sto)) :
  CF (.fn 14) [.val (.str nm),.val (.slice xs),.val (.int .i64 most)] sto=some (.ret (.val (.bool true)),sto):=by
 rw[v.enc_eq] at h15;exact wk
end
abbrev KY:List UInt8:=[39,97]
abbrev bC:List UInt8:=[67,111,110,115]
abbrev VP:List UInt8:=[69,110,100]
abbrev cH:List UInt8:=[70,97,108,115,101]
abbrev VO:List UInt8:=[73,110,116]
abbrev aI6:List UInt8:=[73,110,116,115]
abbrev Vr:List UInt8:=[73,116,101,109]
abbrev pC:List UInt8:=[76,101,97,102]
abbrev aI8:List UInt8:=[76,105,115,116]
abbrev dC:List UInt8:=[78,105,108]
abbrev pD:List UInt8:=[78,111,100,101]
abbrev Vq:List UInt8:=[78,111,110,101]
abbrev aFv:List UInt8:=[79,112,116,105,111,110]
abbrev Vp:List UInt8:=[83,111,109,101]
abbrev Vy:List UInt8:=[84,114,101,101]
abbrev c9:List UInt8:=[84,114,117,101]
abbrev Y6:List UInt8:=[97,98,115]
abbrev aYJ:List UInt8:=[97,108,108]
abbrev Y5:List UInt8:=[97,110,121]
abbrev kU:List UInt8:=[97,112,112,101,110,100]
abbrev aSz:List UInt8:=[98,111,116,104]
abbrev aDd:List UInt8:=[99,111,109,112,111,115,101]
abbrev aGp:List UInt8:=[99,111,110,99,97,116]
abbrev aMs:List UInt8:=[99,111,110,115,116]
abbrev Zw:List UInt8:=[100,114,111,112]
abbrev aGq:List UInt8:=[101,105,116,104,101,114]
abbrev aGr:List UInt8:=[102,105,108,116,101,114]
abbrev aSA:List UInt8:=[102,108,105,112]
abbrev mH:List UInt8:=[102,111,108,100,108]
abbrev fW:List UInt8:=[102,111,108,100,114]
abbrev aYK:List UInt8:=[102,115,116]
abbrev Yj:List UInt8:=[103,99,100]
abbrev HL:List UInt8:=[103,111]
abbrev nId:List UInt8:=[105,100]
abbrev nD:List UInt8:=[105,110,115,101,114,116]
abbrev cj:List UInt8:=[105,115,111,114,116]
abbrev aDe:List UInt8:=[105,116,101,109,115]
abbrev uA:List UInt8:=[108,101,110,103,116,104]
abbrev Zv:List UInt8:=[108,105,115,116]
abbrev wo:List UInt8:=[108,111,111,107,117,112]
abbrev aYL:List UInt8:=[109,97,112]
abbrev Yi:List UInt8:=[109,97,120]
abbrev aGs:List UInt8:=[109,101,109,98,101,114]
abbrev mI:List UInt8:=[109,101,114,103,101]
abbrev aYM:List UInt8:=[109,105,110]
abbrev oN:List UInt8:=[109,115,111,114,116]
abbrev aYN:List UInt8:=[110,111,116]
abbrev Yh:List UInt8:=[110,116,104]
abbrev oO:List UInt8:=[112,97,114,116,105,116,105,111,110]
abbrev aDf:List UInt8:=[112,111,119,101,114]
abbrev aDg:List UInt8:=[112,114,111,100,117,99,116]
abbrev pz:List UInt8:=[113,115,111,114,116]
abbrev aDh:List UInt8:=[114,97,110,103,101]
abbrev wB:List UInt8:=[114,101,112,108,105,99,97,116,101]
abbrev pR:List UInt8:=[114,101,118,101,114,115,101]
abbrev aYO:List UInt8:=[115,110,100]
abbrev wC:List UInt8:=[115,112,108,105,116]
abbrev R9:List UInt8:=[115,117,109]
abbrev wD:List UInt8:=[116,97,107,101]
abbrev cm:List UInt8:=[116,100,101,112,116,104]
abbrev pS:List UInt8:=[116,105,110,115,101,114,116]
abbrev qa:List UInt8:=[116,108,105,115,116]
abbrev wE:List UInt8:=[116,109,101,109,98,101,114]
abbrev aSE:List UInt8:=[116,114,101,101]
abbrev qb:List UInt8:=[116,115,105,122,101]
abbrev aDi:List UInt8:=[117,110,122,105,112]
abbrev qc:List UInt8:=[122,105,112]
abbrev nu(n:Int):ExD:=.mk 1 n [] [] [] []
abbrev va(s:List UInt8):ExD:=.mk 2 0 s [] [] []
abbrev cn(s:List UInt8)(l:List ExD):ExD:=.mk 3 0 s [] l []
abbrev ap(f a:ExD):ExD:=.mk 4 0 [] [] [f,a] []
abbrev la(s:List UInt8)(b:ExD):ExD:=.mk 5 0 [] s [b] []
abbrev rc(f s:List UInt8)(b c:ExD):ExD:=.mk 7 0 f s [b,c] []
abbrev cs(e:ExD)(l:List ExD)(p:List PaD):ExD:=.mk 8 0 [] [] (e::l) p
abbrev op(s:List UInt8)(a b:ExD):ExD:=.mk 9 0 s [] [a,b] []
abbrev pw:PaD:=.mk 1 [] []
abbrev pv(s:List UInt8):PaD:=.mk 2 s []
abbrev pc(s:List UInt8)(l:List PaD):PaD:=.mk 3 s l
abbrev bId:ExD:=va [120]
abbrev aJ7:ExD:=la [121] (va [120])
abbrev aBk:ExD:=la [103] (la [120] (ap (va [102]) (ap (va [103]) (va [120]))))
abbrev aQS:ExD:=la [120] (la [121] (ap (ap (va [102]) (va [121])) (va [120])))
abbrev aW1:ExD:=cs (va [112]) [va [97]] [pc [44] [pv [97],pv [98]]]
abbrev aXb:ExD:=cs (va [112]) [va [98]] [pc [44] [pv [97],pv [98]]]
abbrev aW6:ExD:=cs (va [98]) [cn cH [],cn c9 []] [pc c9 [],pc cH []]
abbrev aQQ:ExD:=la [98] (cs (va [97]) [va [98],cn cH []] [pc c9 [],pc cH []])
abbrev aE5:ExD:=la [98] (cs (va [97]) [cn c9 [],va [98]] [pc c9 [],pc cH []])
abbrev aWY:ExD:=cs (op [60] (va [110]) (nu 0)) [op [45] (nu 0) (va [110]),va [110]] [pc c9 [],pc cH []]
abbrev aW5:ExD:=la [98] (cs (op [60] (va [98]) (va [97])) [va [98],va [97]] [pc c9 [],pc cH []])
abbrev aW4:ExD:=la [98] (cs (op [60] (va [97]) (va [98])) [va [98],va [97]] [pc c9 [],pc cH []])
abbrev aW2:ExD:=la [98] (cs (op [61] (va [98]) (nu 0)) [ap (va Y6) (va [97]),ap (ap (va Yj) (va [98])) (op [37] (va [97]) (va [98]))] [pc c9 [],pc cH []])
abbrev aJ9:ExD:=la [110] (cs (op [60] (va [110]) (nu 1)) [nu 1,op [42] (va [97]) (ap (ap (va aDf) (va [97])) (op [45] (va [110]) (nu 1)))] [pc c9 [],pc cH []])
abbrev aW3:ExD:=rc HL [108] (cs (va [108]) [cn dC [],cn bC [ap (va [102]) (va [104]),ap (va HL) (va [116])]] [pc dC [],pc bC [pv [104],pv [116]]]) (va HL)
abbrev aE6:ExD:=rc HL [108] (cs (va [108]) [cn dC [],cs (ap (va [112]) (va [104])) [cn bC [va [104],ap (va HL) (va [116])],ap (va HL) (va [116])] [pc c9 [],pc cH []]] [pc dC [],pc bC [pv [104],pv [116]]]) (va HL)
abbrev uN:ExD:=la [122] (rc HL [108] (cs (va [108]) [va [122],ap (ap (va [102]) (va [104])) (ap (va HL) (va [116]))] [pc dC [],pc bC [pv [104],pv [116]]]) (va HL))
abbrev zZ:ExD:=rc HL [122] (la [108] (cs (va [108]) [va [122],ap (ap (va HL) (ap (ap (va [102]) (va [122])) (va [104]))) (va [116])] [pc dC [],pc bC [pv [104],pv [116]]])) (va HL)
abbrev sv:ExD:=la [98] (ap (ap (ap (va fW) (la [104] (la [116] (cn bC [va [104],va [116]])))) (va [98])) (va [97]))
abbrev uP:ExD:=ap (ap (ap (va mH) (la [116] (la [104] (cn bC [va [104],va [116]])))) (cn dC [])) (va [108])
abbrev aE4:ExD:=ap (ap (ap (va fW) (va kU)) (cn dC [])) (va [108])
abbrev z6:ExD:=ap (ap (ap (va mH) (la [110] (la [104] (op [43] (va [110]) (nu 1))))) (nu 0)) (va [108])
abbrev VK:ExD:=ap (ap (ap (va fW) (la [104] (la [110] (op [43] (va [104]) (va [110]))))) (nu 0)) (va [108])
abbrev aBl:ExD:=ap (ap (ap (va fW) (la [104] (la [110] (op [42] (va [104]) (va [110]))))) (nu 1)) (va [108])
abbrev aWZ:ExD:=ap (ap (va fW) (la [104] (la [98] (cs (ap (va [112]) (va [104])) [va [98],cn cH []] [pc c9 [],pc cH []])))) (cn c9 [])
abbrev aW0:ExD:=ap (ap (va fW) (la [104] (la [98] (cs (ap (va [112]) (va [104])) [cn c9 [],va [98]] [pc c9 [],pc cH []])))) (cn cH [])
abbrev Vm:ExD:=la [108] (cs (op [60] (va [110]) (nu 1)) [cn dC [],cs (va [108]) [cn dC [],cn bC [va [104],ap (ap (va wD) (op [45] (va [110]) (nu 1))) (va [116])]] [pc dC [],pc bC [pv [104],pv [116]]]] [pc c9 [],pc cH []])
abbrev aQR:ExD:=la [108] (cs (op [60] (va [110]) (nu 1)) [va [108],cs (va [108]) [cn dC [],ap (ap (va Zw) (op [45] (va [110]) (nu 1))) (va [116])] [pc dC [],pc bC [pv [104],pv [116]]]] [pc c9 [],pc cH []])
abbrev aW7:ExD:=la [108] (cs (va [108]) [cn Vq [],cs (op [61] (va [110]) (nu 0)) [cn Vp [va [104]],ap (ap (va Yh) (op [45] (va [110]) (nu 1))) (va [116])] [pc c9 [],pc cH []]] [pc dC [],pc bC [pv [104],pv [116]]])
abbrev VJ:ExD:=la [98] (cs (cn [44] [va [97],va [98]]) [cn bC [cn [44] [va [120],va [121]],ap (ap (va qc) (va [114])) (va [115])],cn dC []] [pc [44] [pc bC [pv [120],pv [114]],pc bC [pv [121],pv [115]]],pw])
abbrev aKm:ExD:=cs (va [108]) [cn [44] [cn dC [],cn dC []],cs (ap (va aDi) (va [116])) [cn [44] [cn bC [va [120],va [97]],cn bC [va [121],va [98]]]] [pc [44] [pv [97],pv [98]]]] [pc dC [],pc bC [pc [44] [pv [120],pv [121]],pv [116]]]
abbrev aKi:ExD:=la [98] (cs (op [60] (va [97]) (va [98])) [cn bC [va [97],ap (ap (va aDh) (op [43] (va [97]) (nu 1))) (va [98])],cn dC []] [pc c9 [],pc cH []])
abbrev nh:ExD:=la [120] (cs (op [60] (va [110]) (nu 1)) [cn dC [],cn bC [va [120],ap (ap (va wB) (op [45] (va [110]) (nu 1))) (va [120])]] [pc c9 [],pc cH []])
abbrev aE8:ExD:=ap (va Y5) (la [121] (op [61] (va [120]) (va [121])))
abbrev aE7:ExD:=la [108] (cs (va [108]) [cn Vq [],cs (op [61] (va [97]) (va [107])) [cn Vp [va [118]],ap (ap (va wo) (va [107])) (va [116])] [pc c9 [],pc cH []]] [pc dC [],pc bC [pc [44] [pv [97],pv [118]],pv [116]]])
abbrev ng:ExD:=la [108] (cs (va [108]) [cn [44] [cn dC [],cn dC []],cs (ap (ap (va oO) (va [112])) (va [116])) [cs (ap (va [112]) (va [104])) [cn [44] [cn bC [va [104],va [97]],va [98]],cn [44] [va [97],cn bC [va [104],va [98]]]] [pc c9 [],pc cH []]] [pc [44] [pv [97],pv [98]]]] [pc dC [],pc bC [pv [104],pv [116]]])
abbrev z0:ExD:=la [108] (cs (va [108]) [cn bC [va [120],cn dC []],cs (op [60] (va [104]) (va [120])) [cn bC [va [104],ap (ap (va nD) (va [120])) (va [116])],cn bC [va [120],va [108]]] [pc c9 [],pc cH []]] [pc dC [],pc bC [pv [104],pv [116]]])
abbrev nc:ExD:=ap (ap (ap (va fW) (va nD)) (cn dC [])) (va [108])
abbrev nf:ExD:=la [98] (cs (cn [44] [va [97],va [98]]) [va [98],va [97],cs (op [60] (va [121]) (va [120])) [cn bC [va [121],ap (ap (va mI) (va [97])) (va [115])],cn bC [va [120],ap (ap (va mI) (va [114])) (va [98])]] [pc c9 [],pc cH []]] [pc [44] [pc dC [],pw],pc [44] [pw,pc dC []],pc [44] [pc bC [pv [120],pv [114]],pc bC [pv [121],pv [115]]]])
abbrev z9:ExD:=cs (va [108]) [cs (ap (va wC) (va [116])) [cn [44] [cn bC [va [120],va [97]],cn bC [va [121],va [98]]]] [pc [44] [pv [97],pv [98]]],cn [44] [va [108],cn dC []]] [pc bC [pv [120],pc bC [pv [121],pv [116]]],pw]
abbrev z7:ExD:=cs (va [108]) [cs (ap (va wC) (va [108])) [ap (ap (va mI) (ap (va oN) (va [97]))) (ap (va oN) (va [98]))] [pc [44] [pv [97],pv [98]]],va [108]] [pc bC [pv [120],pc bC [pv [121],pv [116]]],pw]
abbrev aKa:ExD:=cs (va [108]) [cn dC [],cs (ap (ap (va oO) (la [120] (op [60] (va [120]) (va [104])))) (va [116])) [ap (ap (va kU) (ap (va pz) (va [97]))) (cn bC [va [104],ap (va pz) (va [98])])] [pc [44] [pv [97],pv [98]]]] [pc dC [],pc bC [pv [104],pv [116]]]
abbrev aBy:ExD:=la [116] (cs (va [116]) [cn pD [cn pC [],va [120],cn pC []],cs (op [60] (va [120]) (va [121])) [cn pD [ap (ap (va pS) (va [120])) (va [108]),va [121],va [114]],cs (op [60] (va [121]) (va [120])) [cn pD [va [108],va [121],ap (ap (va pS) (va [120])) (va [114])],va [116]] [pc c9 [],pc cH []]] [pc c9 [],pc cH []]] [pc pC [],pc pD [pv [108],pv [121],pv [114]]])
abbrev aBz:ExD:=la [116] (cs (va [116]) [cn cH [],cs (op [60] (va [120]) (va [121])) [ap (ap (va wE) (va [120])) (va [108]),cs (op [60] (va [121]) (va [120])) [ap (ap (va wE) (va [120])) (va [114]),cn c9 []] [pc c9 [],pc cH []]] [pc c9 [],pc cH []]] [pc pC [],pc pD [pv [108],pv [121],pv [114]]])
abbrev aKk:ExD:=cs (va [116]) [cn dC [],ap (ap (va kU) (ap (va qa) (va [108]))) (cn bC [va [121],ap (va qa) (va [114])])] [pc pC [],pc pD [pv [108],pv [121],pv [114]]]
abbrev aKl:ExD:=cs (va [116]) [nu 0,op [43] (op [43] (ap (va qb) (va [108])) (nu 1)) (ap (va qb) (va [114]))] [pc pC [],pc pD [pv [108],pv [121],pv [114]]]
abbrev aFd:ExD:=cs (va [116]) [nu 0,op [43] (nu 1) (ap (ap (va Yi) (ap (va cm) (va [108]))) (ap (va cm) (va [114])))] [pc pC [],pc pD [pv [108],pv [121],pv [114]]]
abbrev aQZ:ExD:=ap (ap (ap (va mH) (la [116] (la [120] (ap (ap (va pS) (va [120])) (va [116]))))) (cn pC [])) (va [108])
abbrev aQT:ExD:=cs (va [105]) [cn dC [],cn bC [va [104],ap (va Zv) (va [116])]] [pc VP [],pc Vr [pv [104],pv [116]]]
abbrev aJ8:ExD:=cs (va [108]) [cn VP [],cn Vr [va [104],ap (va aDe) (va [116])]] [pc dC [],pc bC [pv [104],pv [116]]]
def libF:List FuD:=[⟨nId,[120],bId⟩,
 ⟨aMs,[120],aJ7⟩,
 ⟨aDd,[102],aBk⟩,
 ⟨aSA,[102],aQS⟩,
 ⟨aYK,[112],aW1⟩,
 ⟨aYO,[112],aXb⟩,
 ⟨aYN,[98],aW6⟩,
 ⟨aSz,[97],aQQ⟩,
 ⟨aGq,[97],aE5⟩,
 ⟨Y6,[110],aWY⟩,
 ⟨aYM,[97],aW5⟩,
 ⟨Yi,[97],aW4⟩,
 ⟨Yj,[97],aW2⟩,
 ⟨aDf,[97],aJ9⟩,
 ⟨aYL,[102],aW3⟩,
 ⟨aGr,[112],aE6⟩,
 ⟨fW,[102],uN⟩,
 ⟨mH,[102],zZ⟩,
 ⟨kU,[97],sv⟩,
 ⟨pR,[108],uP⟩,
 ⟨aGp,[108],aE4⟩,
 ⟨uA,[108],z6⟩,
 ⟨R9,[108],VK⟩,
 ⟨aDg,[108],aBl⟩,
 ⟨aYJ,[112],aWZ⟩,
 ⟨Y5,[112],aW0⟩,
 ⟨wD,[110],Vm⟩,
 ⟨Zw,[110],aQR⟩,
 ⟨Yh,[110],aW7⟩,
 ⟨qc,[97],VJ⟩,
 ⟨aDi,[108],aKm⟩,
 ⟨aDh,[97],aKi⟩,
 ⟨wB,[110],nh⟩,
 ⟨aGs,[120],aE8⟩,
 ⟨wo,[107],aE7⟩,
 ⟨oO,[112],ng⟩,
 ⟨nD,[120],z0⟩,
 ⟨cj,[108],nc⟩,
 ⟨mI,[97],nf⟩,
 ⟨wC,[108],z9⟩,
 ⟨oN,[108],z7⟩,
 ⟨pz,[108],aKa⟩,
 ⟨pS,[120],aBy⟩,
 ⟨wE,[120],aBz⟩,
 ⟨qa,[116],aKk⟩,
 ⟨qb,[116],aKl⟩,
 ⟨cm,[116],aFd⟩,
 ⟨aSE,[108],aQZ⟩,
 ⟨Zv,[105],aQT⟩,
 ⟨aDe,[108],aJ8⟩]
def libT:List DeD:=[⟨1,aI8,[KY],[⟨dC,[]⟩,⟨bC,[.mk KY [],.mk aI8 [.mk KY []]]⟩],[],[],[],[],kH⟩,
 ⟨1,aFv,[KY],[⟨Vq,[]⟩,⟨Vp,[.mk KY []]⟩],[],[],[],[],kH⟩,
 ⟨1,Vy,[KY],[⟨pC,[]⟩,⟨pD,[.mk Vy [.mk KY []],.mk KY [],.mk Vy [.mk KY []]]⟩],[],[],[],[],kH⟩,
 ⟨1,aI6,[],[⟨VP,[]⟩,⟨Vr,[.mk VO [],.mk aI6 []]⟩],[],[],[],[],kH⟩]
def lib:List DeD:=libT++libF.map l9
theorem C5{f a b:ExD}{e c:EnD}{fa:List UInt8}{v r:ItD}{n1 n2 k:Nat}(h1:Ev f e (.fn fa b c) n1)(h2:Ev a e v n2)(h3:Ev b (.cons fa v c) r k):Ev (ap f a) e r (n1+n2+k+1) :=
 .app (.cons h1 (.cons h2 .nil)) h3
theorem KM{o:List UInt8}{a b:ExD}{e:EnD}{x y:Int}{v:ItD}{n1 n2:Nat}(h1:Ev a e (.num x) n1)(h2:Ev b e (.num y) n2)(h3:JL o x y=some v):Ev (op o a b) e v (n1+n2+1) :=
 .op (.cons h1 (.cons h2 .nil)) h3
theorem DX{x c:ExD}{al:List ExD}{pl:List PaD}{e e':EnD}{v r:ItD}{n k:Nat}(h1:Ev x e v n)(hs:PaD.sizes pl<4294967296)(h2:eu pl al v e=some (c,e'))(h3:Ev c e' r k):Ev (cs x al pl) e r (n+k+1):=.case hs h1 h2 h3
theorem Erc{f a:List UInt8}{b c:ExD}{e:EnD}{r:ItD}{k:Nat}(h:Ev c (.rc f a b e) r k):Ev (rc f a b c) e r (k+1):=.recf h
theorem xY{s:List UInt8}{e:EnD}:Ev (cn s []) e (.mk s []) 1:=.con (by decide) .nil
theorem iJ{s:List UInt8}{a b:ExD}{e:EnD}{v w:ItD}{n1 n2:Nat}(h1:Ev a e v n1)(h2:Ev b e w n2):Ev (cn s [a,b]) e (.mk s [v,w]) (n1+n2+1):=.con (by simp) (.cons h1 (.cons h2 .nil))
theorem A9{s:List UInt8}{e:EnD}{i:ItD}(h:e.find s=some i):Ev (va s) e i 1:=.var h
theorem GD{s:List UInt8}{b:ExD}{e:EnD}:Ev (la s b) e (.fn s b e) 1:=.fn
theorem LD{n:Int}{e:EnD}:Ev (nu n) e (.num n) 1:=.num
theorem bD{n:List UInt8}{i:ItD}{o:EnD}:(EnD.cons n i o).find n=some i:=by simp[EnD.find]
theorem aI{n s:List UInt8}{i j:ItD}{o:EnD}(h:(n==s)=false)(k:o.find s=some j):(EnD.cons n i o).find s=some j:=by simp only[EnD.find,h,Be,k]
theorem Rn{f a:List UInt8}{b:ExD}{o:EnD}:(EnD.rc f a b o).find f=some (.fn a b (.rc f a b o)):=by simp[EnD.find]
theorem VQ{f a s:List UInt8}{b:ExD}{j:ItD}{o:EnD}(h:(f==s)=false)(k:o.find s=some j):(EnD.rc f a b o).find s=some j:=by simp only[EnD.find,h,Be,k]
def En(k:Nat):EnD:=(mS ((libF.take k).map l9) .nil .nil).1
def D7:List ItD->ItD
 |[]=>.mk dC []
 |x::l=>.mk bC [x,D7 l]
def F5(l:List Int):ItD:=D7 (l.map .num)
def Pk(b:Bool):ItD:=.mk (bif b then qM else kP) []
theorem Re{x y:Int}:JL [60] x y=some (Pk (decide (x<y))):=rfl
theorem Zt{x y:Int}:JL [43] x y=some (.num (IntKind.i64.wrap (x+y))):=rfl
theorem aSP{x y:Int}:JL [45] x y=some (.num (IntKind.i64.wrap (x-y))):=rfl
def Ru(F x y r:ItD)(k:Nat):Prop:=∃a b c a' b' c' k1 k2,F=.fn a b c/\Ev b (.cons a x c) (.fn a' b' c') k1/\Ev b' (.cons a' y c') r k2/\k1+k2=k
abbrev aCA:ExD:=cs (va [108]) [va [122],ap (ap (va [102]) (va [104])) (ap (va HL) (va [116]))] [pc dC [],pc bC [pv [104],pv [116]]]
def dw(K:Nat->Nat):Nat->Nat
 |0=>3
 |n+1=>dw K n+9+K n
theorem gw(F Z:ItD)(C:EnD)(K:Nat->Nat)(R:List ItD->ItD->Prop):∀l:List ItD,(∀x t r,(∃p,l=p++x::t)->R t r->∃r' k,Ru F x r r' k/\k<=K t.length/\R (x::t) r')->R [] Z ->
  ∃r n,R l r/\n<=dw K l.length/\Ev aCA (.cons [108] (D7 l) (.rc HL [108] aCA (.cons [122] Z (.cons [102] F C)))) r n
 |[],_,hz=>by
  refine⟨Z,3,hz,Af _,?_⟩;exact DX (A9 bD) (by decide) rfl (A9 (aI rfl (VQ rfl bD)))
 |x::t,h,hz=>by
  obtain⟨r,n,h1,h2,h3⟩:=gw F Z C K R t (λy u r ⟨p,e⟩=>h y u r ⟨x::p,by simp[e]⟩) hz;obtain⟨r',k,⟨a,b,c,a',b',c',k1,k2,rfl,e1,e2,rfl⟩,h5,h6⟩:=h x t r ⟨[],rfl⟩ h1;refine⟨r',_,h6,?_,DX (A9 bD) (by decide) rfl (C5 (C5 (A9 (aI rfl (aI rfl (aI rfl (VQ rfl (aI rfl bD)))))) (A9 (aI rfl bD)) e1) (C5 (A9 (aI rfl (aI rfl (aI rfl Rn)))) (A9 bD) h3) e2)⟩;simp only[An,dw];omega
theorem aCm:(En 19).find fW=some (.fn [102] uN (En 17)):=by kernel_rfl
theorem aCx:(En 23).find fW=some (.fn [102] uN (En 17)):=by kernel_rfl
theorem aCo:(En 38).find fW=some (.fn [102] uN (En 17)):=by kernel_rfl
theorem aCu:(En 20).find mH=some (.fn [102] zZ (En 18)):=by kernel_rfl
theorem aCr:(En 22).find mH=some (.fn [102] zZ (En 18)):=by kernel_rfl
theorem vG{e:EnD}(hf:e.find fW=some (.fn [102] uN (En 17))){F Z:ItD}{xF xZ xL:ExD}{nF nZ nL:Nat}{l:List ItD}(K:Nat->Nat)(R:List ItD->ItD->Prop)(hF:Ev xF e F nF)(hZ:Ev xZ e Z nZ)(hL:Ev xL e (D7 l) nL)
  (hs:∀x t r,(∃p,l=p++x::t)->R t r->∃r' k,Ru F x r r' k/\k<=K t.length/\R (x::t) r') (h0:R [] Z) :
  ∃r n,R l r/\n<=nF+nZ+nL+7+dw K l.length/\Ev (ap (ap (ap (va fW) xF) xZ) xL) e r n:=by
 obtain⟨r,n,h1,h2,h3⟩:=gw F Z (En 17) K R l hs h0;exact⟨r,_,h1,by omega,C5 (C5 (C5 (A9 hf) hF GD) hZ (Erc (A9 Rn))) hL h3⟩
abbrev aCz:ExD:=cs (va [108]) [va [122],ap (ap (va HL) (ap (ap (va [102]) (va [122])) (va [104]))) (va [116])] [pc dC [],pc bC [pv [104],pv [116]]]
theorem gn(F:ItD)(C:EnD)(K:Nat)(R:List ItD->ItD->Prop):∀(l:List ItD)(z:ItD),(∀x t z,R (x::t) z->∃z' k,Ru F z x z' k/\k<=K/\R t z')->R l z ->
  ∃r n,R [] r/\n<=3+(12+K)*l.length/\Ev aCz (.cons [108] (D7 l) (.cons [122] z (.rc HL [122] (la [108] aCz) (.cons [102] F C)))) r n
 |[],z,_,hz=>by
  refine⟨z,3,hz,by simp,?_⟩;exact DX (A9 bD) (by decide) rfl (A9 (aI rfl bD))
 |x::t,z,h,hz=>by
  obtain⟨z',k,⟨a,b,c,a',b',c',k1,k2,rfl,e1,e2,rfl⟩,h5,h6⟩:=h x t z hz;obtain⟨r,n,h1,h2,h3⟩:=gn _ C K R t z' h h6;refine⟨r,_,h1,?_,DX (A9 bD) (by decide) rfl (C5 (C5 (A9 (aI rfl (aI rfl (aI rfl (aI rfl Rn))))) (C5 (C5 (A9 (aI rfl (aI rfl (aI rfl (aI rfl (VQ rfl bD)))))) (A9 (aI rfl (aI rfl (aI rfl bD)))) e1) (A9 (aI rfl bD)) e2) GD) (A9 bD) h3)⟩;simp only[An,Fj];omega
theorem gh{e:EnD}(hf:e.find mH=some (.fn [102] zZ (En 18))){F Z:ItD}{xF xZ xL:ExD}{nF nZ nL:Nat}{l:List ItD}(K:Nat)(R:List ItD->ItD->Prop)(hF:Ev xF e F nF)(hZ:Ev xZ e Z nZ)(hL:Ev xL e (D7 l) nL)
  (hs:∀x t z,R (x::t) z->∃z' k,Ru F z x z' k/\k<=K/\R t z') (h0:R l Z) :
  ∃r n,R [] r/\n<=nF+nZ+nL+10+(12+K)*l.length/\Ev (ap (ap (ap (va mH) xF) xZ) xL) e r n:=by
 obtain⟨r,n,h1,h2,h3⟩:=gn F (En 18) K R l Z hs h0;exact⟨r,_,h1,by omega,C5 (C5 (C5 (A9 hf) hF (Erc (A9 Rn))) hZ GD) hL h3⟩
theorem wY(c n:Nat):dw (λ_=>c) n=3+(9+c)*n:=by
 induction n with
 |zero=>simp[dw]
 |succ n ih=>simp only[dw,ih,Fj];omega
abbrev aFW:ExD:=ap (ap (ap (va fW) (la [104] (la [116] (cn bC [va [104],va [116]])))) (va [98])) (va [97])
theorem yx(a b:List ItD):∃n,n<=13*a.length+13/\Ev aFW (.cons [98] (D7 b) (.cons [97] (D7 a) (En 19))) (D7 (a++b)) n:=by
 obtain⟨r,n,rfl,h2,h3⟩:=vG (e:=.cons [98] (D7 b) (.cons [97] (D7 a) (En 19))) (F:=.fn [104] (la [116] (cn bC [va [104],va [116]])) (.cons [98] (D7 b) (.cons [97] (D7 a) (En 19)))) (aI rfl (aI rfl aCm)) (l:=a) (λ_=>4) (λt r=>r=D7 (t++b)) GD (A9 bD) (A9 (aI rfl bD))
  (λx t r _ hr=>⟨_,_,⟨_,_,_,_,_,_,_,_,rfl,GD,iJ (A9 (aI rfl bD)) (A9 bD),rfl⟩,by omega,by rw[hr];rfl⟩) rfl
 rw[wY] at h2;exact⟨n,by omega,h3⟩
theorem aNH(a:List Int):∃s n,n<=13*a.length+13/\Ev VK (.cons [108] (F5 a) (En 23)) (.num s) n:=by
 obtain⟨r,n,h1,h2,h3⟩:=vG (e:=.cons [108] (F5 a) (En 23)) (F:=.fn [104] (la [110] (op [43] (va [104]) (va [110]))) (.cons [108] (F5 a) (En 23))) (aI rfl aCx) (l:=a.map .num) (λ_=>4) (λt r=>∃s,r=.num s) GD LD (A9 bD)
  (λx t r ⟨p,e⟩ hr=>by
   obtain⟨s,rfl⟩:=hr;have hx:x∈a.map ItD.num:=by rw[e];simp
   obtain⟨y,_,rfl⟩:=Cm.1 hx;exact⟨_,_,⟨_,_,_,_,_,_,_,_,rfl,GD,KM (A9 (aI rfl bD)) (A9 bD) Zt,rfl⟩,by omega,_,rfl⟩) ⟨0,rfl⟩
 obtain⟨s,rfl⟩:=h1;rw[wY,Ay] at h2;exact⟨s,n,by omega,h3⟩
theorem qx(a:List ItD):∃n,n<=16*a.length+16/\Ev uP (.cons [108] (D7 a) (En 20)) (D7 a.reverse) n:=by
 obtain⟨r,n,⟨d,h1,Je⟩,h2,h3⟩:=gh (e:=.cons [108] (D7 a) (En 20)) (F:=.fn [116] (la [104] (cn bC [va [104],va [116]])) (.cons [108] (D7 a) (En 20))) (aI rfl aCu) (l:=a) 4 (λt z=>∃d,z=D7 d/\d.reverse++t=a) GD xY (A9 bD)
  (λx t z ⟨d,hz,hd⟩=>⟨_,_,⟨_,_,_,_,_,_,_,_,rfl,GD,iJ (A9 bD) (A9 (aI rfl bD)),rfl⟩,by omega,x::d,by rw[hz];rfl,by simpa using hd⟩) ⟨[],rfl,rfl⟩
 rw[Ao] at Je;rw[<-Je,List.reverse_reverse];subst h1;exact⟨n,by rw[<-Je,Ez] at h2;simp only[Ez];omega,Je▸h3⟩
theorem aAh(a:List ItD):∃s n,n<=16*a.length+16/\Ev z6 (.cons [108] (D7 a) (En 22)) (.num s) n:=by
 obtain⟨r,n,⟨s,rfl⟩,h2,h3⟩:=gh (e:=.cons [108] (D7 a) (En 22)) (F:=.fn [110] (la [104] (op [43] (va [110]) (nu 1))) (.cons [108] (D7 a) (En 22))) (aI rfl aCr) (l:=a) 4 (λt z=>∃s,z=.num s) GD LD (A9 bD)
  (λx t z ⟨s,hz⟩=>by subst hz;exact⟨_,_,⟨_,_,_,_,_,_,_,_,rfl,GD,KM (x:=s) (y:=1) (A9 (aI rfl bD)) LD Zt,rfl⟩,by omega,_,rfl⟩) ⟨0,rfl⟩
 exact⟨s,n,by omega,h3⟩
theorem aSd:(En 30).find qc=some (.fn [97] VJ (En 30)):=by kernel_rfl
abbrev aYA:ExD:=cs (cn [44] [va [97],va [98]]) [cn bC [cn [44] [va [120],va [121]],ap (ap (va qc) (va [114])) (va [115])],cn dC []] [pc [44] [pc bC [pv [120],pv [114]],pc bC [pv [121],pv [115]]],pw]
theorem aEO:∀(a b:List ItD),∃n,n<=14*a.length+5/\Ev aYA (.cons [98] (D7 b) (.cons [97] (D7 a) (En 30))) (D7 ((a.zip b).map λp=>.mk [44] [p.1,p.2])) n
 |[],b=>⟨_,by omega,DX (iJ (A9 (aI rfl bD)) (A9 bD)) (by decide) rfl xY⟩
 |x::a,[]=>⟨_,by omega,DX (iJ (A9 (aI rfl bD)) (A9 bD)) (by decide) rfl xY⟩
 |x::a,y::b=>by
  obtain⟨n,h1,h2⟩:=aEO a b;refine⟨_,?_,DX (iJ (A9 (aI rfl bD)) (A9 bD)) (by decide) rfl (iJ (iJ (A9 (aI rfl (aI rfl (aI rfl bD)))) (A9 (aI rfl bD))) (C5 (C5 (A9 (aI rfl (aI rfl (aI rfl (aI rfl (aI rfl (aI rfl aSd))))))) (A9 (aI rfl (aI rfl bD))) GD) (A9 bD) h2))⟩;simp only[An];omega
theorem aK9:(En 27).find wD=some (.fn [110] Vm (En 27)):=by kernel_rfl
abbrev aSe:ExD:=cs (op [60] (va [110]) (nu 1)) [cn dC [],cs (va [108]) [cn dC [],cn bC [va [104],ap (ap (va wD) (op [45] (va [110]) (nu 1))) (va [116])]] [pc dC [],pc bC [pv [104],pv [116]]]] [pc c9 [],pc cH []]
theorem qK:∀(a:List Int)(k:Int),∃(b:List Int)(n:Nat),b.length<=a.length/\n<=16*a.length+8/\Ev aSe (.cons [108] (F5 a) (.cons [110] (.num k) (En 27))) (F5 b) n
 |a,k=>by
  by_cases hk:k<1
  ·have h:JL [60] k 1=some (Pk true):=by rw[Re];simp[hk]
   exact⟨[],_,by simp,by omega,DX (KM (A9 (aI rfl bD)) LD h) (by decide) rfl xY⟩
  ·have h:JL [60] k 1=some (Pk false):=by rw[Re];simp[hk]
   cases a with
   |nil=>exact⟨[],_,by simp,by simp,DX (KM (A9 (aI rfl bD)) LD h) (by decide) rfl (DX (A9 bD) (by decide) rfl xY)⟩
   |cons x a =>
    obtain⟨b,n,h1,h2,h3⟩:=qK a (IntKind.i64.wrap (k-1));refine⟨x::b,_,by simpa using h1,?_,DX (KM (A9 (aI rfl bD)) LD h) (by decide) rfl (DX (A9 bD) (by decide) rfl (iJ (A9 (aI rfl bD)) (C5 (C5 (A9 (aI rfl (aI rfl (aI rfl (aI rfl aK9))))) (KM (A9 (aI rfl (aI rfl (aI rfl bD)))) LD aSP) GD) (A9 bD) h3)))⟩;simp only[An];omega
end Go.Proofs.YtoiocfngjchdiaaGreatDoor
