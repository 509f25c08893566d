/- Part G04 of the proof of one law of the program. -/
import Derived.Test.YtkmnkiekmlcfdaaGreatDoorD01
import Derived.Test.YtkmnkiekmlcfdaaGreatDoorE18
set_option linter.all false
set_option linter.unusedVariables false
set_option linter.unusedSimpArgs false
set_option linter.unusedSectionVars false
set_option linter.unnecessarySimpa false
namespace Go.Proofs.YtkmnkiekmlcfdaaGreatDoor
open Go.AM Go.RowKit Go.ChangeShapes Go.WideShapes Go.ChangeAt
theorem datSizes_bound:∀ (ds:List DaD),conTot ds≤datSizes ds
 |[]=>Nat.le_refl _
 |d::ds=>by
  have h1:=datSizes_bound ds
  have h2:=conSizes_len d.cons
  simp only[conTot,datSizes,DaD.size];omega
theorem dsOk {ds:List DaD} (h:datSizes ds < 2097152):DsOk ds where
 len:=by have:=datSizes_len ds;simp only[big];omega
 tot:=by have:=datSizes_bound ds;simp only[big];omega
 ok:=fun d hd=>by
  have h1:=datSizes_mem hd
  have h2:=strSizes_len d.vars
  have h3:=conSizes_len d.cons
  refine ⟨by simp only[DaD.size] at h1;simp only[big];omega,by simp only[DaD.size] at h1;simp only[big];omega,fun c hc=>?_,fun c hc x hx=>?_⟩
  all_goals
   have h4:=conSizes_mem hc
   simp only[DaD.size] at h1
   simp only[CoD.size] at h4
  ·have:=TyD.sizes_len c.args
   simp only[big];omega
  ·have:=TyD.sizes_mem hx
   simp only[big];omega
theorem post_below {H:Type} {enc:TypeId×Value→H} {P:Program} {f:Func} {s:ChangeSpec} {W W':World} {args:Array Value} {v:Value} {ds gs:List (DataW H)} {before pa pv:List MemPlace}
  (hW:DataW.Whole enc P f.params.toList s.vars false W args.toList ds gs before) (hb:Below W.heap.size W W')
  (hres:∀ (b:Nat) (sp:Nat→Bool) (hd:Bool),DataW.TrodAll enc P W' b sp hd f.resultTypes.toList (v.resultList f.resultTypes.size) (s.fn H (ds++gs)).results [])
  (hargs:∀ sp:Nat→Bool,(∀ p∈before,sp p.block=true)→DataW.TrodAll enc P W' 0 sp true f.params.toList args.toList (s.fn H (ds++gs)).args pa)
  (hvars:∀ sp:Nat→Bool,(∀ p∈before,sp p.block=true)→DataW.TrodVars enc P W' sp s.vars (s.fn H (ds++gs)).vars pv)
  (hps:before=pa++pv)
  (hok:∀ (j:Nat) (t:TypeId) (r:Value),f.resultTypes[j]?=some t→(v.resultList f.resultTypes.size)[j]?=some r→Value.okWide P W' .any 0 t r) :
  s.post enc P f false true false false W args v W':=by
 have hold:∀ p∈before,(fun b=>decide (b < W.heap.size)) p.block=true:=fun p hp=>by simpa using hW.lt p hp
 refine ⟨ds,gs,before,[],pa,pv,hW,hres _ _ _,hargs _ hold,hvars _ hold,hb.frame _,fun h=>?_⟩
 cases h
set_option maxRecDepth 100000 in
theorem contract (E:∀ B0,Env Tryz.prog ans B0 (prims kdF)) (H:Type) (enc:TypeId×Value→H) (W:World) (base:Nat) (args:Array Value) (ds gs:List (DataW H)) (before:List MemPlace)
  (hval:∀ (j:Nat) t v,Tryz.f4.params[j]?=some t→args[j]?=some v→Value.okWide Tryz.prog W .any base t v)
  (hW:DataW.Whole enc Tryz.prog Tryz.f4.params.toList Rows.matchOrderSpec.vars false W args.toList ds gs before) (hk:Rows.uptoSmall H (ds++gs)=true) (hL:laidMetH Tryz.prog Rows.matchOrderRow.laid W) (hsh:W.ShapedOpen Tryz.prog) :
  Calls Tryz.prog 4 args W fun e W'=>∃ v,e=.returned v∧Rows.matchOrderSpec.post enc Tryz.prog Tryz.f4 false true false false W args v W':=by
 have hW':=hW
 obtain ⟨p,q,hA0,hV,rfl,hfz,hnd⟩:=hW
 have hA:DataW.TrodAll enc Tryz.prog W 0 (fun _=>true) true Tryz.f4.params.toList args.toList ds p:=hA0
 rw[Tryz.params4] at hA hval
 obtain ⟨v0,vs0,d0,ds0,p0,q0,hargs,rfl,rfl,h0,r0⟩:=trodAll_cons hA
 obtain ⟨v1,vs1,d1,ds1,p1,q1,rfl,rfl,rfl,h1,r1⟩:=trodAll_cons r0
 obtain ⟨v2,vs2,d2,ds2,p2,q2,rfl,rfl,rfl,h2,r2⟩:=trodAll_cons r1
 obtain ⟨rfl,rfl,rfl⟩:=trodAll_nil r2
 obtain rfl:args=#[v0,v1,v2]:=Array.toList_inj.1 hargs
 obtain ⟨rfl,rfl⟩:=trodVars_none hV
 obtain ⟨n,rfl,rfl,rfl,hwf⟩:=open_int Tryz.underlying3 (hval 2 3 v2 (by kernel_rfl) (by simp)) h2
 have ok0:=hval 0 28 v0 (by kernel_rfl) (by simp)
 have ok1:=hval 1 30 v1 (by kernel_rfl) (by simp)
 simp only[Value.okWide,Tryz.underlying28] at ok0
 simp only[Value.okWide,Tryz.underlying30] at ok1
 obtain ⟨cs0,rfl,_,_⟩:=ok0
 obtain ⟨cs1,rfl,_,_⟩:=ok1
 have h0k:=h0
 have h1k:=h1
 obtain ⟨f0,h0⟩:=h0
 obtain ⟨f1,h1⟩:=h1
 obtain ⟨D,T,L,hr0,hb0⟩:=rdAsk f0 _ _ h0
 obtain ⟨pa,hr1,hb1⟩:=rdPa f1 _ _ h1
 clear hA0
 simp only[List.append_nil] at hW' hk
 have hsm:Rows.uptoBulkAll [d0,d1,DataW.lit (.int .i64 n)]≤1048576:=of_decide_eq_true hk
 simp only[Rows.uptoBulkAll] at hsm
 simp only at hb0 hb1
 have hgl:=glob hsh hL
 have hn:-9223372036854775808≤n∧n < 9223372036854775808:=by
  simp [Lit.wf,IntKind.min,IntKind.max,IntKind.signed,IntKind.bits] at hwf
  omega
 have hc:=c4 (kd:=kdF) (dsOk (ds:=D) (by omega)) T (by simp only[big];omega) pa L (by simp only[mid];omega) n hn.1 hn.2 ⟨[],0⟩ (Nat.le_refl _) c13
 have hpre:CallPre ans W.heap.size W (Psi W) [] (fun _=>none) [.val (askE D T L),.val pa.enc,.val (.int .i64 n)] #[.agg cs0,.agg cs1,.int .i64 n] ⟨[],0⟩:=by
  refine ⟨wsat hgl (len5 hL),Nat.le_refl _,fun b h=>absurd rfl h,rfl,fun s hs=>?_,fun i s hi=>?_,⟨rfl,fun i o h=>by simp at h⟩,Nat.le_refl _⟩
  ·simp at hs;rcases hs with rfl|rfl|rfl <;> rfl
  ·match i,hi with
   |0,hi=>cases hi;exact .val _ _ hr0.vrel
   |1,hi =>
    cases hi
    have:=hr1.vrel
    rw[pa.enc_eq] at this ⊢
    exact .val _ _ this
   |2,hi=>cases hi;exact .val _ _ (.int _ _)
 refine (cfW_calls (E W.heap.size) rfl hc hpre).mono fun e W' h=>?_
 obtain ⟨Ψ',ρ',ow',hfr,_,v,rfl,hs⟩:=h
 have hv:v=.bool true:=by
  cases hs with
  |val x v h=>cases h;rfl
 subst hv
 have hbel:=below_of_fr hfr
 have hlt:∀ x∈p0++(p1++[]),x.block < W.heap.size:=fun x hx=>hW'.lt x (by simpa using hx)
 refine ⟨_,rfl,post_below (pa:=p0++(p1++([]++[]))) (pv:=[]) hW' hbel (fun _ _ _=>trodAll_cons_mk (shut_bool Tryz.underlying4 _) trodAll_mk0) (fun sp hsp=>?_) (fun _ _=>rfl) (by simp) (ok_one (by kernel_rfl) rfl (okWide_bool_mk Tryz.underlying4 _))⟩
 exact trodAll_cons_mk (WideElems.Trod_stays laidOut (by kernel_rfl) (of_decide_eq_true (by kernel_rfl)) h0k (fun x hx=>hbel.same (hlt x (by simp [hx]))) (fun x hx=>hsp x (by simp [hx])))
  (trodAll_cons_mk (WideElems.Trod_stays laidOut (by kernel_rfl) (of_decide_eq_true (by kernel_rfl)) h1k (fun x hx=>hbel.same (hlt x (by simp [hx]))) (fun x hx=>hsp x (by simp [hx])))
   (trodAll_cons_mk (shut_int Tryz.underlying3 hwf) trodAll_mk0))
end Go.Proofs.YtkmnkiekmlcfdaaGreatDoor
