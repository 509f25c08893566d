import Derived.Test.YtoiocfngjchdiaaGreatDoorT20
import Derived.Test.YtoiocfngjchdiaaGreatDoorT06
set_option linter.all false
set_option maxRecDepth 100000
set_option maxHeartbeats 8000000
namespace Go.Proofs.YtoiocfngjchdiaaGreatDoor
open Go.AM
section
open Go.RowKit
variable [h_]
theorem a67(p:Value)(w:World):CallsD Tryz.prog 101 #[p] .returning w λe u' w'=>e=.returned (.tuple #[])/\u'=.returning/\w'=w:=by
 refine callsD_of_wpS Tryz.func101 rfl λc₀ cs hu=>?_
 apply wpS_seq;apply wpS_region;simp[wpOpsS,go_sem,Nat.reduceAdd,reduceIte,recoverD,hu,Tryz.ntmps101,Exit.thenS];refine wpS_of_wp ?_
 go_wp2
 cases c₀
 simp_all [bodyPostS,results,Tryz.results101]
noncomputable abbrev S6(cf:aI)(B0:Nat)(cs:List Frame)(ds:List Deferred):Rc:=⟨Tryz.prog,ans,cf,32,B0,FN 32,cs,ds⟩
def ju(b:Nat):Deferred:={ target:=.fn (.func 101) #[.pointer (some ⟨b,0,none⟩)],args:=#[] }
noncomputable def p32:Code:=match(Tryz.f32.body).getD .skip with
 |.seq _ (.seq b _)=>b
 |c=>c
theorem aTi(tmps:Array Value)(hs:tmps.size=7)(w:World):p32.wp Tryz.prog (λe a w'=>e=.normal/\w'=w/\a.tmps=tmps.setIfInBounds 3 (.func (.func 101) #[] #[tmps.getD 2 undef])/\a.defers=[{ target:=.fn (.func 101) #[tmps.getD 2 undef],args:=#[] }]) ⟨tmps,[]⟩ w:=by
 have hmf:∀(fn:Fn)(first cap:Array Value)(w:World),(Instr.makeFunc fn first cap).run Tryz.prog w=.ok (.func fn first cap) w:=λ_ _ _ _=>rfl
 show(Code.region _ _ _).wp _ _ _ _
 go_wp2
noncomputable def TO:Code:=match(Tryz.f32.body).getD .skip with
 |.seq _ (.seq _ b)=>b
 |c=>c
theorem kO{B0:Nat}{fid:FuncId}{st:St}{w:World}{Ψ:HT}{J:List Nat}{ow:Own}{tmps:Array Value}(h:At Tryz.prog ans fid B0 w Ψ J ow st tmps)(d:Nat)(v:Value)(hd:d<(ans fid).nt)(hk:bg (ans fid).keep st.tm d=.dead):At Tryz.prog ans fid B0 w Ψ J ow st (tmps.setIfInBounds d v):=by
 have hE:jl (sl (ans fid) st.tm ⟨[],st.sto⟩) d .dead=sl (ans fid) st.tm ⟨[],st.sto⟩:=by
  funext t;by_cases e:t=d
  ·subst e
   rw[eB];exact hk.symm
  ·rw[bD _ _ e]
 refine⟨?_,h.nr,h.lo⟩
 have:=h.rel.write d .dead v hd (λt o e=>absurd e (h.nr.bg _ _ _ _)) (λu o e=>by cases e) (λcs e=>by cases e) Ψ.le_refl (aG _) h.rel.b_ (λt _ _=>e_.refl _ _ _ _ _) (.dead v) h.rel.objs h.rel.lt (Ae _)
 rw[hE] at this;exact this
theorem a04{P:Program}{ans:FuncId->AF}{f:FuncId}{fn:Func}{c0:Code}{vs:Array Value}(hF:P.funcs[f]?=some fn)(hb:fn.body=some c0)(K6:fn.ntmps=(ans f).nt):Frame.enter P f vs .normal=(FN f).atR ⟨vs++Array.replicate ((ans f).nt-vs.size) undef,[]⟩ [.code c0]:=by
 simp[Frame.enter,Frame.atR,hF,hb,FN,K6]
abbrev zW:ai:=.box [.val (.int .i64 0),.val (.int .i64 0)]
theorem aTn (Hn:Tryz.f32.name≠ "runtime.NumGoroutine") {cf:aI} (BO:∀B0,kC Tryz.prog ans B0 cf) (E0:gU Tryz.prog ans cf) {a b e g:Nat} {O O':List ai} {lo:Nat} (AP:lo<=O.length) (hlen:O'.length=O.length) (KD:∀i,i<lo->O'[i]?=O[i]?)
  (ha:a<O.length) (hb:b<O.length) (he:e<O.length) (hg:g<O.length) (Rs:cf (.fn 33) [.val (.loc a 0),.val (.loc b 0),.val (.loc e 0),.val (.loc g 0)] ⟨O++[zW],lo⟩=some (.ret (.aj []),⟨O'++[zW],lo⟩)) :
  Row Tryz.prog ans 32 [.val (.func 33 [.loc a 0,.loc b 0,.loc e 0,.loc g 0])] ⟨O,lo⟩ (.ret (.val (.agg [.int .i64 0,.int .i64 0]))) ⟨O',lo⟩:=by
 refine⟨⟨_,Tryz.func32,by kernel_rfl,Hn⟩,λB0 w Ψ J ow vs BM c cs=>?_⟩;have nt:(ans 32).nt=7:=by rw[RA]
 have Iz:=qD (P:=Tryz.prog) BM (by rw[nt];show 1<=7;omega);have Iz:At Tryz.prog ans 32 B0 w Ψ J ow ⟨[.val (.func 33 [.loc a 0,.loc b 0,.loc e 0,.loc g 0]),.dead],⟨O,lo⟩⟩ _:=Iz;have H0:(S6 cf B0 (c::cs) []).OK:=⟨BO B0,E0,rfl⟩
 have h0:bE (S6 cf B0 (c::cs) []) ⟨[.val (.func 33 [.loc a 0,.loc b 0,.loc e 0,.loc g 0]),.dead],⟨O,lo⟩⟩ [.code ((Tryz.f32.body).getD .skip)] ⟨[.val (.func 33 [.loc a 0,.loc b 0,.loc e 0,.loc g 0]),.val (.loc O.length 0)],⟨O++[zW],lo⟩⟩ [.code p32,.code TO]:=by
  have H:=H0;clear Rs KD hlen;show bE _ ⟨[_,_],_⟩ [.code (.seq _ _)] _ _;repeat first|with_reducible refine nH ?_|with_reducible refine iI ?_|with_reducible refine eQ ?_|with_reducible refine cT ?_|((with_reducible apply iG);(·rfl))|((with_reducible apply nG H);(·(intro _ _;(repeat (apply BL;(·(intro _;simp only[*,go_sem];rfl))));rfl));(·(simp only[go_sem];rfl)))|((with_reducible apply iH H);(·kernel_rfl);(·(intro _ _;(repeat (apply BL;(·(intro _;simp only[*,go_sem];rfl))));rfl));(·(simp only[go_sem];rfl)))|((with_reducible apply Ha);(·(simp only[go_sem];rfl));(·first|rfl|assumption))|((with_reducible apply Hb);(·(simp only[go_sem];rfl));(·first|rfl|assumption))
  exact bE.refl
 have h2:∀ds,bE (S6 cf B0 (c::cs) ds) ⟨[.val (.func 33 [.loc a 0,.loc b 0,.loc e 0,.loc g 0]),.val (.loc O.length 0)],⟨O++[zW],lo⟩⟩ [.code TO] ⟨[.val (.func 33 [.loc a 0,.loc b 0,.loc e 0,.loc g 0]),.val (.loc O.length 0)],⟨O'++[zW],lo⟩⟩ [.code .ret]:=λds=>by
  have H:(S6 cf B0 (c::cs) ds).OK:=⟨BO B0,E0,rfl⟩
  have k1:Nat.ble lo O.length=true:=Ah AP;have o1:∀A,(O'++[A])[O.length]?=some A:=λA=>by rw[<-hlen];simp
  have o2:∀A B,(O'++[A]).set O.length B=O'++[B]:=λA B=>by rw[<-hlen];simp
  clear KD;show bE _ _ [.code (.seq _ _)] _ _;repeat first|with_reducible refine nH ?_|with_reducible refine iI ?_|with_reducible refine eQ ?_|with_reducible refine cT ?_|((with_reducible apply iG);(·rfl))|((with_reducible apply nG H);(·(intro _ _;(repeat (apply BL;(·(intro _;simp only[*,go_sem,Nat.reduceAdd,reduceIte,fB];rfl))));rfl));(·(simp only[go_sem];rfl)))|((with_reducible apply iH H);(·kernel_rfl);(·(intro _ _;(repeat (apply BL;(·(intro _;simp only[*,go_sem,Nat.reduceAdd,reduceIte,fB];rfl))));rfl));(·(simp only[go_sem];rfl)))|((with_reducible apply Ha);(·(simp only[go_sem];rfl));(·first|rfl|assumption))|((with_reducible apply Hb);(·(simp only[go_sem];rfl));(·first|rfl|assumption))
  exact bE.refl
 obtain⟨w1,Z1,J1,BR,FG,A1,F1,p1,S1⟩:=h0 w Ψ J ow _ Iz;have A1:At Tryz.prog ans 32 B0 w1 Z1 J1 BR ⟨[.val (.func 33 [.loc a 0,.loc b 0,.loc e 0,.loc g 0]),.val (.loc O.length 0)],⟨O++[zW],lo⟩⟩ FG:=A1;have BD:FG.size=7:=A1.rel.size.trans nt;obtain⟨b2,r2,_⟩:=A1.rel.objs.2 O.length zW (by simp)
 have v2:FG.getD 2 undef=.pointer (some ⟨b2,0,none⟩):=by
  have:=A1.rel.dr 2
  rw[RA] at this;generalize FG.getD 2 undef=u at this;cases this with
  |val _ _ h=>cases h with
   |loc _ _ b' h=>rw[r2] at h;cases h;rfl
 obtain⟨e3,a3,w3,⟨rfl,rfl,ht,hd⟩,S3⟩:=aTi FG BD w1 (FN 32) [.code TO] (c::cs);rw[v2] at ht hd;have A3:=kO A1 3 (.func (.func 101) #[] #[.pointer (some ⟨b2,0,none⟩)]) (by rw[nt];omega) (by rw[RA];rfl);obtain⟨w4,Z4,J4,Xm,L9,A4,F4,p4,S4⟩:=h2 [ju b2] w3 Z1 J1 BR _ A3
 have HJ:finish Tryz.prog (ans 32) Tryz.f32 O.length ⟨[.val (.func 33 [.loc a 0,.loc b 0,.loc e 0,.loc g 0]),.val (.loc O.length 0)],⟨O'++[zW],lo⟩⟩=some (.ret (.val (.agg [.int .i64 0,.int .i64 0])),⟨O',lo⟩):=by
  have o1:∀A,(O'++[A])[O.length]?=some A:=λA=>by rw[<-hlen];simp
  have o3:∀A,(O'++[A]).take O.length=O':=λA=>by rw[<-hlen];simp
  have hr:Tryz.f32.results.toList=[.cell 2 89]:=by rw[Tryz.results32]
  simp only[finish,hr,fG,cF,trim,go_sem,Nat.reduceAdd,reduceIte,o1,o3]
 obtain⟨a68,v,J5,Xl,q1,q2,q3,q4,q5,q6,MT,q7,q8,q9,MU⟩:=nV A4 (by simp[hlen]) HJ;cases q1;have JM:=BM.objs.1;refine⟨w4,Z4,J5,Xl,((F1.trans F4)).trans q6,iD (dF p1 p4) JM.symm MU,A4.rel.b_,q5,λb hb=>A4.rel.lt b (MT b hb),⟨rfl,by show O.length<=O'.length;omega,KD⟩,q2,v,q4,?_⟩
 have hL:Leaves Tryz.prog Tryz.f32 L9 (λe w1=>e=.returned v/\w1=w4) [ju b2] .returning w4:=by
  refine leaves_cons (f:=101) (args:=#[.pointer (some ⟨b2,0,none⟩)]) (by simp) (by simp[ju,go_sem]) ?_;refine(a67 (.pointer (some ⟨b2,0,none⟩)) w4).mono ?_
  rintro e u' w1 ⟨rfl,hs,rfl⟩
  show Leaves _ _ _ _ [] (settle u') _;rw[hs];exact⟨v,q3,rfl,rfl⟩
 obtain⟨e5,w5,MM,⟨rfl,rfl⟩,UD,_,hl⟩:=leaves_steps [ju b2] .returning w4 { (FN 32).atR ⟨L9,[ju b2]⟩ [.code .ret] with mode:=.returning } (c::cs) rfl rfl rfl Tryz.func32 rfl hL;have SL:=Steps.trans UD (.one (step_leave_returned hl));obtain⟨t3,d3⟩:=a3;simp only at ht hd;subst ht hd
 have sv:Frame.enter Tryz.prog 32 vs .normal=(FN 32).atR ⟨vs++Array.replicate ((ans 32).nt-vs.size) undef,[]⟩ [.code ((Tryz.f32.body).getD .skip)]:=by
  exact a04 Tryz.func32 rfl rfl
 rw[sv];exact S1.trans (S3.trans (S4.trans ((Steps.one (stepR_ret rfl)).trans SL)))
noncomputable abbrev Xf(cf:aI)(B0:Nat)(cs:List Frame):Rc:=⟨Tryz.prog,ans,cf,9,B0,FN 9,cs,[]⟩
def iK(O:List ai)(D:List ax)(X:ai)(n:Nat):List ai:=O++[.box [.val (.slice (D.map ax.enc))],.box [.val (.slice [])],.box [.val (.int .i64 200000)],X,.box [.val (.int .i64 (n:Nat))],.box [.val (.func 31 [.loc (O.length+4) 0,.loc (O.length+2) 0])],.box [.val (.loc (O.length+5) 0)]]
def om(D:List ax):List ai:=[.box [.val (.slice (D.map ax.enc))],.box [.val (.slice [])],.box [.val (.int .i64 200000)]]
abbrev Nv:ai:=.box [.own 4 [],.val (.int .i64 0)]
theorem a6U{cf:aI}{B0:Nat}{cs:List Frame}(H:(Xf cf B0 cs).OK)(O:List ai)(lo:Nat)(AP:lo<=O.length)(D:List ax)(x:ae)(n:Nat)
  (SD:cf (.fn 30) [.val (.agg [.slice (D.map ax.enc)]),.val (.slice [])] ⟨O++om D,lo⟩=some (.ret (.val (.int .i64 0)),⟨O++om D,lo⟩))
  (SB:cf (.fn 32) [.val (.func 33 [.loc (O.length+6) 0,.loc O.length 0,.loc (O.length+1) 0,.loc (O.length+3) 0])] ⟨iK O D Nv 0,lo⟩=some (.ret (.val (.agg [.int .i64 0,.int .i64 0])),⟨iK O D (.box [.val (.slice [x]),.val (.int .i64 0)]) n,lo⟩)) :
  ∃(M:List ai)(s0 s1 s2 s3 s4 s5 s8 s9 s10 BK BU BZ B2 C0:Slot)(k:List Item),bE (Xf cf B0 cs) ⟨[.val (.agg [.slice (D.map ax.enc)]),.val (.slice []),.val (.int .i64 200000),.dead,.dead,.dead,.dead,.dead,.dead,.dead,.dead,.dead,.dead,.dead,.dead,.dead],⟨O,lo⟩⟩ [.code ((Tryz.f9.body).getD .skip)] ⟨[s0,s1,s2,s3,s4,s5,.box [.val (.slice [x]),.val (.int .i64 (n:Nat))],.val (.int .i64 0),s8,s9,s10,BK,BU,BZ,B2,C0],⟨O++M,lo⟩⟩ (.code .ret::k):=by
 have k1:∀i,Nat.ble lo (O.length+i)=true:=λi=>Ah (by omega)
 have kb:∀i,Nat.ble O.length (O.length+i)=true:=λi=>Ah (by omega)
 have kb0:Nat.ble O.length O.length=true:=Ah (Ae _);have k0:Nat.ble lo O.length=true:=Ah AP;simp only[iK,Int.natCast_zero] at SB;simp only[om] at SD;clear AP;apply Exists.intro;iterate 14 apply Exists.intro
 apply Exists.intro;show bE _ _ [.code (.seq _ _)] _ _;repeat first|with_reducible refine nH ?_|with_reducible refine iI ?_|with_reducible refine eQ ?_|with_reducible refine cT ?_|((with_reducible apply iG);(·rfl))|((with_reducible apply nG H);(·(intro _ _;(repeat (apply BL;(·(intro _;simp only[*,go_sem,Nat.reduceAdd,reduceIte,FL,FO,fB];rfl))));rfl));(·(simp only[go_sem];rfl)))|((with_reducible apply iH H);(·kernel_rfl);(·(intro _ _;(repeat (apply BL;(·(intro _;simp only[*,go_sem,Nat.reduceAdd,reduceIte,FL,FO,fB];rfl))));rfl));(·(simp only[go_sem];rfl)))|((with_reducible apply Ha);(·(simp only[go_sem];rfl));(·first|rfl|assumption))|((with_reducible apply Hb);(·(simp only[go_sem];rfl));(·first|rfl|assumption))
 exact bE.refl;all_goals exact .dead
theorem jT(O:List ai)(D:List ax)(X:ai)(n:Nat):(iK O D X n).length=O.length+7:=by simp[iK]
theorem xM{O:List ai}{D:List ax}{X:ai}{n i:Nat}(h:i<O.length):(iK O D X n)[i]?=O[i]?:=by simp[iK,Az h]
theorem aEW{O:List ai}{D:List ax}{X:ai}{n:Nat}(i:Nat)(M:List ai):(iK O D X n++M)[O.length+i]?=(([.box [.val (.slice (D.map ax.enc))],.box [.val (.slice [])],.box [.val (.int .i64 200000)],X,.box [.val (.int .i64 (n:Nat))],.box [.val (.func 31 [.loc (O.length+4) 0,.loc (O.length+2) 0])],.box [.val (.loc (O.length+5) 0)]]:List ai)++M)[i]?:=by
 unfold iK;rw[Aj,Bm (by omega)];congr 1;omega
theorem a17(O:List ai)(D:List ax)(X:ai)(n m:Nat)(M:List ai):AW (iK O D X n++M) (O.length+4) m=iK O D X m++M:=by
 unfold AW iK;simp[Em]
theorem aEZ(O:List ai)(D:List ax)(X Y:ai)(n:Nat)(M:List ai):(iK O D X n++M).set (O.length+3) Y=iK O D Y n++M:=by
 unfold iK;simp[Em]
theorem aXa(E:∀B0,Env Tryz.prog ans B0 oV)(ys:List ax)(hy:∀y∈ys,mh y)(nm:List UInt8)(e:af)(v:ad)(n:Nat)(hn:n<=200000)(GD:Ev e (nO ys .nil .nil).2 (jf v) n)(hv:v.km=true)(Lo:v.cu<=4000)(hb:(ys++[cU nm e]).length<1000)
  (SD:∀sto:AH,sto.lo<=sto.objs.length->Row Tryz.prog ans 30 [.val (.agg [.slice ((ys++[cU nm e]).map ax.enc)]),.val (.slice [])] sto (.ret (.val (.int .i64 0))) sto) (O:List ai) (lo:Nat) (AP:lo<=O.length) :
  Row Tryz.prog ans 9 [.val (.agg [.slice ((ys++[cU nm e]).map ax.enc)]),.val (.slice []),.val (.int .i64 200000)] ⟨O,lo⟩ (.ret (.aj [.agg [.slice [GA nm v],.int .i64 (n:Nat)],.int .i64 0])) ⟨O,lo⟩:=by
 have g:=λi X m=>aEW (O:=O) (D:=ys++[cU nm e]) (X:=X) (n:=m) i [zW]
 have hR:nk (iK O (ys++[cU nm e]) Nv 0++[zW]) (O.length+5) (O.length+4) (O.length+2) 200000 lo :=
  ⟨by simp[iK],g 5 _ _,g 2 _ _,by omega,by omega,by omega,by decide⟩
 have Uo:=aTo E (s:=0) (n:=n) (ip:=O.length) (iv:=O.length+6) (ii:=O.length+1) (io:=O.length+3) hR (by omega) ys hy nm e v GD hv Lo hb (by omega) (g 0 _ _) (g 6 _ _) (g 1 _ _) (g 3 _ _) (by omega) (by omega) (by omega) (by omega) (by simp[iK]);rw[aEZ,a17,a17,Bs] at Uo
 have SB:=aTn ((E 0).names 32 _ Tryz.func32 rfl) (cf:=Hw CF 33 [.val (.loc (O.length+6) 0),.val (.loc O.length 0),.val (.loc (O.length+1) 0),.val (.loc (O.length+3) 0)] ⟨iK O (ys++[cU nm e]) Nv 0++[zW],lo⟩ (.ret (.aj []),⟨iK O (ys++[cU nm e]) (.box [.val (.slice [GA nm v]),.val (.int .i64 0)]) n++[zW],lo⟩))
  (λB0=>da (qC (E B0)) Uo) (sn (by kernel_rfl) mN (by show(ans 33).jx=false;rw[Zv])) (O:=iK O (ys++[cU nm e]) Nv 0) (O':=iK O (ys++[cU nm e]) (.box [.val (.slice [GA nm v]),.val (.int .i64 0)]) n) (lo:=lo) (by rw[jT];omega) (by rw[jT,jT]) (λi hi=>by rw[xM (by omega),xM (by omega)]) (by rw[jT];omega) (by rw[jT];omega) (by rw[jT];omega) (by rw[jT];omega) (uP _ _ _ _ _)
 have P9:=SD ⟨O++om (ys++[cU nm e]),lo⟩ (by simp;omega)
 refine rowOf (cf:=Hw (Hw CF 30 [.val (.agg [.slice ((ys++[cU nm e]).map ax.enc)]),.val (.slice [])] ⟨O++om (ys++[cU nm e]),lo⟩ (.ret (.val (.int .i64 0)),⟨O++om (ys++[cU nm e]),lo⟩)) 32 [.val (.func 33 [.loc (O.length+6) 0,.loc O.length 0,.loc (O.length+1) 0,.loc (O.length+3) 0])] ⟨iK O (ys++[cU nm e]) Nv 0,lo⟩ (.ret (.val (.agg [.int .i64 0,.int .i64 0])),⟨iK O (ys++[cU nm e]) (.box [.val (.slice [GA nm v]),.val (.int .i64 0)]) n,lo⟩))
  Tryz.func9 rfl ((E 0).names 9 _ Tryz.func9 rfl) rfl rfl ⟨rfl,Ae _,λ_ _=>rfl⟩ λB0 cs=>?_
 have p30:(ans 30).jx=false:=by kernel_rfl
 obtain⟨M,s0,s1,s2,s3,s4,s5,s8,s9,s10,BK,BU,BZ,B2,C0,k,hr⟩:=a6U (cf:=Hw (Hw CF 30 [.val (.agg [.slice ((ys++[cU nm e]).map ax.enc)]),.val (.slice [])] ⟨O++om (ys++[cU nm e]),lo⟩ (.ret (.val (.int .i64 0)),⟨O++om (ys++[cU nm e]),lo⟩)) 32 [.val (.func 33 [.loc (O.length+6) 0,.loc O.length 0,.loc (O.length+1) 0,.loc (O.length+3) 0])] ⟨iK O (ys++[cU nm e]) Nv 0,lo⟩ (.ret (.val (.agg [.int .i64 0,.int .i64 0])),⟨iK O (ys++[cU nm e]) (.box [.val (.slice [GA nm v]),.val (.int .i64 0)]) n,lo⟩))
  (B0:=B0) (cs:=cs) ⟨da (da (qC (E B0)) P9) SB,sn (by kernel_rfl) (a02 mN p30) (by show(ans 32).jx=false;rw[RA]),rfl⟩ O lo AP (ys++[cU nm e]) (GA nm v) n ((a3P (by decide)).trans (uP _ _ _ _ _)) (uP _ _ _ _ _)
 refine⟨_,_,hr,.inr ⟨_,rfl⟩,by simp,?_⟩;have B7:Tryz.f9.results.toList=[.cell 6 36,.tmp 7]:=by rw[Tryz.results9]
 have o3:(O++M).take O.length=O:=by simp
 clear hr P9 SB Uo hR g SD GD;generalize GA nm v=x;simp only[finish,B7,fG,cF,trim,go_sem,Nat.reduceAdd,reduceIte,o3]
end
section
variable [h_]
def oS:List UInt8:=[111]
theorem c20(c7:List ax)(JI:h_.pg=.agg [.slice (c7.map ax.enc)])(S:AH):CF (.fn 20) [.val (.str [])] S=some (.ret (.aj [.agg [.slice (c7.map ax.enc)],.int .i64 0,.int .i64 0]),S):=by
 refine NI (r:=.ret (.aj [.agg [.slice (c7.map ax.enc)],.int .i64 0,.int .i64 0])) ?_ rfl;show some (some (d_.ret (.aj [h_.pg,.int .i64 0,.int .i64 0])))=_;rw[JI]
theorem a5o(c7:List ax)(JI:h_.pg=.agg [.slice (c7.map ax.enc)])(hl:c7.length<=59)(BA:c7≠[])(nm:List UInt8)(xs:List ae)(x:af)(sto:AH)(SE:CF (.fn 22) [.val (.str nm),.val (.slice xs)] sto=some (.ret (.aj [x.enc,.int .i64 0]),sto))
  (IK:CF (.fn 23) [.val (.agg [.slice ((c7++[cU oS x]).map ax.enc)])] sto=some (.ret (.val (.int .i64 0)),sto)) :
  CF (.fn 7) [.val (.str nm),.val (.slice xs)] sto=some (.ret (.aj [.agg [.slice ((c7++[cU oS x]).map ax.enc)],.bool true]),sto):=by
 have SF:=c20 c7 JI sto
 have CA:(c7.map ax.enc).all (λy=>Nat.beq y.cells.length 14)=true:=by
  rw[Au];intro y hy;obtain⟨n,_,rfl⟩:=Cn.1 hy;rfl
 have hhd:eb 14 (c7.map ax.enc)=true:=by
  cases c7 with
  |nil=>rfl
  |cons a l=>rfl
 have Ma:Nat.ble c7.length room=true:=Ah (by unfold room;omega);have JH:Nat.ble (c7.length+1) room=true:=Ah (by unfold room;omega)
 have e1:(c7++[cU oS x]).map ax.enc=c7.map ax.enc++[.agg [.int .i64 5,.str [],.slice [],.slice [],.str oS,.str [],.slice [],.slice [],.int .i64 x.kind,.int .i64 x.num,.str x.name,.str x.arg,.slice (x.args.map af.enc),.slice (x.ez.map ag.enc)]]:=by
  rw[Fa];rfl
 rw[e1] at IK ⊢;rw[x.aw] at SE;simp only[oS] at IK ⊢;generalize hL:c7.map ax.enc=L at *;have hlen:L.length=c7.length:=by rw[<-hL];simp
 clear e1 JI hl BA hL;exact BP
theorem c15(P:ae)(nm:List UInt8)(xs:List ae)(v:ad)(n:Nat)(sto:AH)(hP:∃D,P=.agg [.slice D])(h7:CF (.fn 7) [.val (.str nm),.val (.slice xs)] sto=some (.ret (.aj [P,.bool true]),sto))
  (h9:CF (.fn 9) [.val P,.val (.slice []),.val (.int .i64 200000)] sto=some (.ret (.aj [.agg [.slice [GA oS v],.int .i64 (n:Nat)],.int .i64 0]),sto)) :
  CF (.fn 15) [.val (.str nm),.val (.slice xs)] sto=some (.ret (.aj [v.enc,.int .i64 (n:Nat),.bool true]),sto):=by
 obtain⟨D,rfl⟩:=hP;rw[v.aw];simp only[GA] at h9;exact wk
end
theorem CX{f a b:af}{e c:aq}{fa:List UInt8}{v r:au}{n1 n2 k:Nat}(h1:Ev f e (.fn fa b c) n1)(h2:Ev a e v n2)(h3:Ev b (.cons fa v c) r k):Ev (ap f a) e r (n1+n2+k+1) :=
 .app (.cons h1 (.cons h2 .nil)) h3
theorem Kl{o:List UInt8}{a b:af}{e:aq}{x y:Int}{v:au}{n1 n2:Nat}(h1:Ev a e (.num x) n1)(h2:Ev b e (.num y) n2)(h3:MV o x y=some v):Ev (op o a b) e v (n1+n2+1) :=
 .op (.cons h1 (.cons h2 .nil)) h3
theorem C8{x c:af}{al:List af}{pl:List ag}{e e':aq}{v r:au}{n k:Nat}(h1:Ev x e v n)(hs:ag.f_ pl<4294967296)(h2:jh pl al v e=some (c,e'))(h3:Ev c e' r k):Ev (cs x al pl) e r (n+k+1):=.case hs h1 h2 h3
theorem xu{f a:List UInt8}{b c:af}{e:aq}{r:au}{k:Nat}(h:Ev c (.rc f a b e) r k):Ev (rc f a b c) e r (k+1):=.u9 h
theorem u7{s:List UInt8}{e:aq}:Ev (cn s []) e (.mk s []) 1:=.bh (by decide) .nil
theorem jY{s:List UInt8}{a b:af}{e:aq}{v w:au}{n1 n2:Nat}(h1:Ev a e v n1)(h2:Ev b e w n2):Ev (cn s [a,b]) e (.mk s [v,w]) (n1+n2+1):=.bh (by simp) (.cons h1 (.cons h2 .nil))
theorem AX{s:List UInt8}{e:aq}{i:au}(h:e.find s=some i):Ev (va s) e i 1:=.var h
theorem HK{s:List UInt8}{b:af}{e:aq}:Ev (la s b) e (.fn s b e) 1:=.fn
theorem Enu{n:Int}{e:aq}:Ev (nu n) e (.num n) 1:=.num
theorem aY{n:List UInt8}{i:au}{o:aq}:(aq.cons n i o).find n=some i:=by simp[aq.find]
theorem aA{n s:List UInt8}{i j:au}{o:aq}(h:(n==s)=false)(k:o.find s=some j):(aq.cons n i o).find s=some j:=by simp only[aq.find,h,Bh,k]
theorem S7{f a:List UInt8}{b:af}{o:aq}:(aq.rc f a b o).find f=some (.fn a b (.rc f a b o)):=by simp[aq.find]
theorem Vn{f a s:List UInt8}{b:af}{j:au}{o:aq}(h:(f==s)=false)(k:o.find s=some j):(aq.rc f a b o).find s=some j:=by simp only[aq.find,h,Bh,k]
def En(k:Nat):aq:=(nO ((xk.take k).map mS) .nil .nil).1
def Ie:List au->au
 |[]=>.mk dP []
 |x::l=>.mk bI [x,Ie l]
def D6(l:List Int):au:=Ie (l.map .num)
def SJ(b:Bool):au:=.mk (bif b then rF else lI) []
theorem Vm{x y:Int}:MV [60] x y=some (SJ (decide (x<y))):=rfl
def Sm(F x y r:au)(k:Nat):Prop:=∃a b c a' b' c' k1 k2,F=.fn a b c/\Ev b (.cons a x c) (.fn a' b' c') k1/\Ev b' (.cons a' y c') r k2/\k1+k2=k
abbrev zu:af:=cs (va [108]) [va [122],ap (ap (va [102]) (va [104])) (ap (va He) (va [116]))] [pc dP [],pc bI [pv [104],pv [116]]]
def gx(K:Nat->Nat):Nat->Nat
 |0=>3
 |n+1=>gx K n+9+K n
theorem a1i(F Z:au)(C:aq)(K:Nat->Nat)(R:List au->au->Prop):∀l:List au,(∀x t r,(∃p,l=p++x::t)->R t r->∃r' k,Sm F x r r' k/\k<=K t.length/\R (x::t) r')->R [] Z ->
  ∃r n,R l r/\n<=gx K l.length/\Ev zu (.cons [108] (Ie l) (.rc He [108] zu (.cons [122] Z (.cons [102] F C)))) r n
 |[],_,hz=>by
  refine⟨Z,3,hz,Ae _,?_⟩;exact C8 (AX aY) (by decide) rfl (AX (aA rfl (Vn rfl aY)))
 |x::t,h,hz=>by
  obtain⟨r,n,h1,h2,h3⟩:=a1i F Z C K R t (λy u r ⟨p,e⟩=>h y u r ⟨x::p,by simp[e]⟩) hz;obtain⟨r',k,⟨a,b,c,a',b',c',k1,k2,rfl,e1,e2,rfl⟩,h5,h6⟩:=h x t r ⟨[],rfl⟩ h1;refine⟨r',_,h6,?_,C8 (AX aY) (by decide) rfl (CX (CX (AX (aA rfl (aA rfl (aA rfl (Vn rfl (aA rfl aY)))))) (AX (aA rfl aY)) e1) (CX (AX (aA rfl (aA rfl (aA rfl S7)))) (AX aY) h3) e2)⟩;simp only[Ak,gx];omega
theorem aDa:(En 19).find gS=some (.fn [102] bz (En 17)):=by kernel_rfl
theorem aDc:(En 38).find gS=some (.fn [102] bz (En 17)):=by kernel_rfl
theorem a1f{e:aq}(hf:e.find gS=some (.fn [102] bz (En 17))){F Z:au}{xF xZ xL:af}{nF nZ nL:Nat}{l:List au}(K:Nat->Nat)(R:List au->au->Prop)(hF:Ev xF e F nF)(hZ:Ev xZ e Z nZ)(hL:Ev xL e (Ie l) nL)
  (hs:∀x t r,(∃p,l=p++x::t)->R t r->∃r' k,Sm F x r r' k/\k<=K t.length/\R (x::t) r') (h0:R [] Z) :
  ∃r n,R l r/\n<=nF+nZ+nL+7+gx K l.length/\Ev (ap (ap (ap (va gS) xF) xZ) xL) e r n:=by
 obtain⟨r,n,h1,h2,h3⟩:=a1i F Z (En 17) K R l hs h0;exact⟨r,_,h1,by omega,CX (CX (CX (AX hf) hF HK) hZ (xu (AX S7))) hL h3⟩
abbrev zt:af:=cs (va [108]) [va [122],ap (ap (va He) (ap (ap (va [102]) (va [122])) (va [104]))) (va [116])] [pc dP [],pc bI [pv [104],pv [116]]]
theorem a1h(F:au)(C:aq)(K:Nat)(R:List au->au->Prop):∀(l:List au)(z:au),(∀x t z,R (x::t) z->∃z' k,Sm F z x z' k/\k<=K/\R t z')->R l z ->
  ∃r n,R [] r/\n<=3+(12+K)*l.length/\Ev zt (.cons [108] (Ie l) (.cons [122] z (.rc He [122] (la [108] zt) (.cons [102] F C)))) r n
 |[],z,_,hz=>by
  refine⟨z,3,hz,by simp,?_⟩;exact C8 (AX aY) (by decide) rfl (AX (aA rfl aY))
 |x::t,z,h,hz=>by
  obtain⟨z',k,⟨a,b,c,a',b',c',k1,k2,rfl,e1,e2,rfl⟩,h5,h6⟩:=h x t z hz;obtain⟨r,n,h1,h2,h3⟩:=a1h _ C K R t z' h h6;refine⟨r,_,h1,?_,C8 (AX aY) (by decide) rfl (CX (CX (AX (aA rfl (aA rfl (aA rfl (aA rfl S7))))) (CX (CX (AX (aA rfl (aA rfl (aA rfl (aA rfl (Vn rfl aY)))))) (AX (aA rfl (aA rfl (aA rfl aY)))) e1) (AX (aA rfl aY)) e2) HK) (AX aY) h3)⟩;simp only[Ak,Er];omega
theorem aDi{e:aq}(hf:e.find pH=some (.fn [102] rm (En 18))){F Z:au}{xF xZ xL:af}{nF nZ nL:Nat}{l:List au}(K:Nat)(R:List au->au->Prop)(hF:Ev xF e F nF)(hZ:Ev xZ e Z nZ)(hL:Ev xL e (Ie l) nL)
  (hs:∀x t z,R (x::t) z->∃z' k,Sm F z x z' k/\k<=K/\R t z') (h0:R l Z) :
  ∃r n,R [] r/\n<=nF+nZ+nL+10+(12+K)*l.length/\Ev (ap (ap (ap (va pH) xF) xZ) xL) e r n:=by
 obtain⟨r,n,h1,h2,h3⟩:=a1h F (En 18) K R l Z hs h0;exact⟨r,_,h1,by omega,CX (CX (CX (AX hf) hF (xu (AX S7))) hZ HK) hL h3⟩
theorem a7E(c n:Nat):gx (λ_=>c) n=3+(9+c)*n:=by
 induction n with
 |zero=>simp[gx]
 |succ n ih=>simp only[gx,ih,Er];omega
abbrev aGQ:af:=ap (ap (ap (va gS) (la [104] (la [116] (cn bI [va [104],va [116]])))) (va [98])) (va [97])
theorem aAC(a b:List au):∃n,n<=13*a.length+13/\Ev aGQ (.cons [98] (Ie b) (.cons [97] (Ie a) (En 19))) (Ie (a++b)) n:=by
 obtain⟨r,n,rfl,h2,h3⟩:=a1f (e:=.cons [98] (Ie b) (.cons [97] (Ie a) (En 19))) (F:=.fn [104] (la [116] (cn bI [va [104],va [116]])) (.cons [98] (Ie b) (.cons [97] (Ie a) (En 19)))) (aA rfl (aA rfl aDa)) (l:=a) (λ_=>4) (λt r=>r=Ie (t++b)) HK (AX aY) (AX (aA rfl aY))
  (λx t r _ hr=>⟨_,_,⟨_,_,_,_,_,_,_,_,rfl,HK,jY (AX (aA rfl aY)) (AX aY),rfl⟩,by omega,by rw[hr];rfl⟩) rfl
 rw[a7E] at h2;exact⟨n,by omega,h3⟩
abbrev GI(l:List Int):Prop:=l.Pairwise (·<=·)
theorem aC9:(En 37).find n6=some (.fn [120] cg (En 37)):=by kernel_rfl
theorem aAX:(En 38).find n6=some (.fn [120] cg (En 37)):=by kernel_rfl
theorem a3o:(En 39).find nA=some (.fn [97] rq (En 39)):=by kernel_rfl
theorem aGu:(En 40).find xB=some (.fn [108] cq (En 40)):=by kernel_rfl
theorem a1e:(En 41).find iR=some (.fn [108] vH (En 41)):=by kernel_rfl
theorem aDh:(En 41).find xB=some (.fn [108] cq (En 40)):=by kernel_rfl
theorem aDg:(En 41).find nA=some (.fn [97] rq (En 39)):=by kernel_rfl
theorem R7{x y:Int}(h:x<y):MV [60] x y=some (SJ true):=by rw[Vm];simp[h]
theorem Ok{x y:Int}(h:¬x<y):MV [60] x y=some (SJ false):=by rw[Vm];simp[h]
abbrev aGR:af:=cs (va [108]) [cn bI [va [120],cn dP []],cs (op [60] (va [104]) (va [120])) [cn bI [va [104],ap (ap (va n6) (va [120])) (va [116])],cn bI [va [120],va [108]]] [pc cV [],pc cD []]] [pc dP [],pc bI [pv [104],pv [116]]]
theorem a0d(x:Int):∀l:List Int,∃m n,m.Perm (x::l)/\(GI l->GI m)/\n<=14*l.length+5/\Ev aGR (.cons [108] (D6 l) (.cons [120] (.num x) (En 37))) (D6 m) n
 |[]=>⟨[x],_,.refl _,λ_=>by simp[GI],by simp,C8 (AX aY) (by decide) rfl (jY (AX (aA rfl aY)) u7)⟩
 |h::t=>by
  by_cases hx:h<x
  ·obtain⟨m,n,h1,h2,h3,h4⟩:=a0d x t
   refine⟨h::m,_,(h1.cons h).trans (.swap x h t),λhs=>?_,?_,C8 (AX aY) (by decide) rfl (C8 (Kl (AX (aA rfl aY)) (AX (aA rfl (aA rfl (aA rfl aY)))) (R7 hx)) (by decide) rfl (jY (AX (aA rfl aY)) (CX (CX (AX (aA rfl (aA rfl (aA rfl (aA rfl aC9))))) (AX (aA rfl (aA rfl (aA rfl aY)))) HK) (AX aY) h4)))⟩
   ·obtain⟨k1,k2⟩:=Bb.1 hs
    refine Bb.2 ⟨λy hy=>?_,h2 k2⟩;rcases As.1 (h1.mem_iff.1 hy) with rfl|hy
    ·omega
    ·exact k1 y hy
   ·simp only[Ak];omega
  ·refine⟨x::h::t,_,.refl _,λhs=>?_,?_,C8 (AX aY) (by decide) rfl (C8 (Kl (AX (aA rfl aY)) (AX (aA rfl (aA rfl (aA rfl aY)))) (Ok hx)) (by decide) rfl (jY (AX (aA rfl (aA rfl (aA rfl aY)))) (AX (aA rfl (aA rfl aY)))))⟩
   ·obtain⟨k1,k2⟩:=Bb.1 hs
    refine Bb.2 ⟨λy hy=>?_,hs⟩;rcases As.1 hy with rfl|hy
    ·omega
    ·have:=k1 y hy;omega
   ·simp only[Ak];omega
theorem aBN(n:Nat):gx (λi=>14*i+6) n=7*(n*n)+8*n+3:=by
 induction n with
 |zero=>rfl
 |succ n ih =>
  have:(n+1)*(n+1)=n*n+2*n+1:=by rw[Er,Ez];omega
  simp only[gx,ih,this];omega
theorem aDG(a:List Int):∃m n,m.Perm a/\GI m/\n<=7*(a.length*a.length)+8*a.length+13/\Ev rp (.cons [108] (D6 a) (En 38)) (D6 m) n:=by
 obtain⟨r,n,⟨a',h0,m,rfl,h1,Kf⟩,h2,h3⟩:=a1f (e:=.cons [108] (D6 a) (En 38)) (aA rfl aDc) (l:=a.map .num) (λi=>14*i+6) (λt r=>∃t':List Int,t=t'.map .num/\∃m:List Int,r=D6 m/\m.Perm t'/\GI m) (AX (aA rfl aAX)) u7 (AX aY)
  (λx t r ⟨p,e⟩ ⟨t',ht,m,hr,hm,hs⟩=>by
   have hx:x∈a.map au.num:=by rw[e];simp
   obtain⟨y,_,rfl⟩:=Cn.1 hx;subst hr ht;obtain⟨m',n,k1,k2,k3,k4⟩:=a0d y m;refine⟨_,_,⟨_,_,_,_,_,_,_,_,rfl,HK,k4,rfl⟩,?_,y::t',rfl,m',rfl,k1.trans (hm.cons y),k2 hs⟩
   have:=hm.length_eq
   simp only[Ay];omega) ⟨[],rfl,[],rfl,.refl _,by simp[GI]⟩
 have e:a'=a:=by
  have:=Dd (List.map λi:au=>match i with|.num n=>n|_=>0) h0
  simpa[List.map_map,Dw] using this.symm
 subst e;rw[aBN,Ay] at h2;exact⟨m,n,h1,Kf,by omega,h3⟩
abbrev aMX:af:=cs (cn [44] [va [97],va [98]]) [va [98],va [97],cs (op [60] (va [121]) (va [120])) [cn bI [va [121],ap (ap (va nA) (va [97])) (va [115])],cn bI [va [120],ap (ap (va nA) (va [114])) (va [98])]] [pc cV [],pc cD []]] [pc [44] [pc dP [],pw],pc [44] [pw,pc dP []],pc [44] [pc bI [pv [120],pv [114]],pc bI [pv [121],pv [115]]]]
theorem w8:∀(a b:List Int),∃m n,m.Perm (a++b)/\(GI a->GI b->GI m)/\n<=16*(a.length+b.length)+5/\Ev aMX (.cons [98] (D6 b) (.cons [97] (D6 a) (En 39))) (D6 m) n
 |[],b=>⟨b,_,.refl _,λ_ h=>h,by simp,C8 (jY (AX (aA rfl aY)) (AX aY)) (by decide) rfl (AX aY)⟩
 |x::r,[]=>⟨x::r,_,by simp,λh _=>h,by simp,C8 (jY (AX (aA rfl aY)) (AX aY)) (by decide) rfl (AX (aA rfl aY))⟩
 |x::r,y::s=>by
  by_cases hx:y<x
  ·obtain⟨m,n,h1,h2,h3,h4⟩:=w8 (x::r) s
   refine⟨y::m,_,(h1.cons y).trans List.perm_middle.symm,λha hb=>?_,?_,C8 (jY (AX (aA rfl aY)) (AX aY)) (by decide) rfl (C8 (Kl (AX (aA rfl aY)) (AX (aA rfl (aA rfl (aA rfl aY)))) (R7 hx)) (by decide) rfl
    (jY (AX (aA rfl aY)) (CX (CX (AX (aA rfl (aA rfl (aA rfl (aA rfl (aA rfl (aA rfl a3o))))))) (AX (aA rfl (aA rfl (aA rfl (aA rfl (aA rfl aY)))))) HK) (AX aY) h4)))⟩
   ·obtain⟨k1,k2⟩:=Bb.1 hb
    obtain⟨j1,j2⟩:=Bb.1 ha;refine Bb.2 ⟨λz hz=>?_,h2 ha k2⟩;rcases Bk.1 (h1.mem_iff.1 hz) with hz|hz
    ·rcases As.1 hz with rfl|hz
     ·omega
     ·have:=j1 z hz;omega
    ·exact k1 z hz
   ·simp only[Ak] at h3 ⊢;omega
  ·obtain⟨m,n,h1,h2,h3,h4⟩:=w8 r (y::s)
   refine⟨x::m,_,h1.cons x,λha hb=>?_,?_,C8 (jY (AX (aA rfl aY)) (AX aY)) (by decide) rfl (C8 (Kl (AX (aA rfl aY)) (AX (aA rfl (aA rfl (aA rfl aY)))) (Ok hx)) (by decide) rfl
    (jY (AX (aA rfl (aA rfl (aA rfl aY)))) (CX (CX (AX (aA rfl (aA rfl (aA rfl (aA rfl (aA rfl (aA rfl a3o))))))) (AX (aA rfl (aA rfl aY))) HK) (AX (aA rfl (aA rfl (aA rfl (aA rfl aY))))) h4)))⟩
   ·obtain⟨k1,k2⟩:=Bb.1 hb
    obtain⟨j1,j2⟩:=Bb.1 ha;refine Bb.2 ⟨λz hz=>?_,h2 j2 hb⟩;rcases Bk.1 (h1.mem_iff.1 hz) with hz|hz
    ·exact j1 z hz
    ·rcases As.1 hz with rfl|hz
     ·omega
     ·have:=k1 z hz;omega
   ·simp only[Ak] at h3 ⊢;omega
termination_by a b=>a.length+b.length
theorem a16:∀(l:List Int),∃a b n,(a++b).Perm l/\a.length=(l.length+1)/2/\b.length=l.length/2/\n<=13*(l.length/2)+5/\Ev cq (.cons [108] (D6 l) (En 40)) (.mk [44] [D6 a,D6 b]) n
 |[]=>⟨[],[],_,.refl _,by simp,by simp,by simp,C8 (AX aY) (by decide) rfl (jY (AX aY) u7)⟩
 |[x]=>⟨[x],[],_,.refl _,by simp,by simp,by simp,C8 (AX aY) (by decide) rfl (jY (AX aY) u7)⟩
 |x::y::t=>by
  obtain⟨a,b,n,h1,h2,h3,h4,h5⟩:=a16 t
  refine⟨x::a,y::b,_,(List.perm_middle.trans (h1.cons y)).cons x,?_,?_,?_,C8 (AX aY) (by decide) rfl (C8 (CX (AX (aA rfl (aA rfl (aA rfl (aA rfl aGu))))) (AX aY) h5) (by decide) rfl
   (jY (jY (AX (aA rfl (aA rfl (aA rfl (aA rfl aY))))) (AX (aA rfl aY))) (jY (AX (aA rfl (aA rfl (aA rfl aY)))) (AX aY))))⟩<;>simp only[Ak]<;>omega
theorem w9:∀(k:Nat)(l:List Int),l.length<=2^k->l≠[]->∃m n,m.Perm l/\GI m/\n+26<=23*(l.length*k)+29*l.length/\Ev vH (.cons [108] (D6 l) (En 41)) (D6 m) n
 |_,[],_,h=>absurd rfl h
 |k,[x],_,_=>⟨[x],_,.refl _,by simp[GI],by simp only[Ak,Ap];omega,C8 (AX aY) (by decide) rfl (AX aY)⟩
 |0,x::y::t,h,_=>by simp at h
 |k+1,x::y::t,h,_=>by
  obtain⟨a,b,n,h1,h2,h3,h4,h5⟩:=a16 (x::y::t);have hp:2^(k+1)=2*2^k:=by rw[Gr];omega
  rw[hp] at h;obtain⟨ma,na,a1,a2,a3,a4⟩:=w9 k a (by omega) (by intro e;rw[e] at h2;simp at h2;omega);obtain⟨mb,a6y,b1,b2,b3,b4⟩:=w9 k b (by omega) (by intro e;rw[e] at h3;simp at h3;omega);obtain⟨m,nm,m1,m2,m3,m4⟩:=w8 ma mb
  refine⟨m,_,m1.trans ((a1.append b1).trans h1),m2 a2 b2,?_,C8 (AX aY) (by decide) rfl (C8 (CX (AX (aA rfl (aA rfl (aA rfl (aA rfl aDh))))) (AX (aA rfl (aA rfl (aA rfl aY)))) h5) (by decide) rfl
   (CX (CX (AX (aA rfl (aA rfl (aA rfl (aA rfl (aA rfl (aA rfl aDg))))))) (CX (AX (aA rfl (aA rfl (aA rfl (aA rfl (aA rfl (aA rfl a1e))))))) (AX (aA rfl aY)) a4) HK) (CX (AX (aA rfl (aA rfl (aA rfl (aA rfl (aA rfl (aA rfl a1e))))))) (AX aY) b4) m4))⟩
  have e1:=a1.length_eq;have e2:=b1.length_eq;rw[e1,e2] at m3;have hl:a.length+b.length=(x::y::t).length:=by rw[<-Bc];exact h1.length_eq
  have hk:(x::y::t).length*(k+1)=a.length*k+b.length*k+(x::y::t).length:=by rw[<-hl,Er,Co]
  rw[hk];generalize a.length*k=u at *;generalize b.length*k=v at *;omega
theorem qv(e:aq):∀l:List Int,Ev (gk (aM (l.map bL))) e (D6 l) (2*l.length+1)
 |[]=>u7
 |x::l=>by
  have:=jY (s:=bI) (Enu (n:=x)) (qv e l)
  have e1:1+(2*l.length+1)+1=2*(x::l).length+1:=by simp only[Ak];omega
  rw[<-e1];exact this
theorem xS:∀l:List Int,jf (aM (l.map bL))=D6 l
 |[]=>rfl
 |x::l=>by
  have:=xS l
  show au.mk bI [.num x,jf (aM (l.map bL))]=_;rw[this];rfl
theorem de:∀l:List Int,(aM (l.map bL)).cu=2*l.length+1
 |[]=>rfl
 |x::l=>by
  have:=de l
  simp only[Ba,aM,ad.cu,ad.cA,bL,this,Ak];omega
theorem xP:∀l:List Int,(aM (l.map bL)).km=true
 |[]=>rfl
 |x::l=>by
  have:=xP l
  simp only[Ba,aM,ad.km,ad.sH,bL,this];rfl
def qo:aq:=(nO c7 .nil .nil).2
theorem aDm:qo.find iR=some (.fn [108] vH (En 41)):=by kernel_rfl
theorem aDl:qo.find lM=some (.fn [108] rp (En 38)):=by kernel_rfl
end Go.Proofs.YtoiocfngjchdiaaGreatDoor
