import Derived.Test.YtdkkaldimefljaaGreatDoorC14
import Derived.Test.YtdkkaldimefljaaGreatDoorC11
import Derived.Test.YtdkkaldimefljaaGreatDoorProg
import Derived.KernelRfl
set_option linter.all false
noncomputable section
namespace Go.CM
variable {fe:Q→CF} {r:V} {f:Q} {dk:Bool} {rd:Option Q} {cs:List Fr} {cx:Cx} {k k':K} {κ:St} {env:List (Nat×St)} {l:Q} {c:Fr}
theorem qv (id i:Nat) (κ:St) (env:List (Nat×St)):rL ((i,κ)::env) id=match Nat.beq i id with|true=>some κ|false=>rL env id:=by
 simp only[rL] <;> (cases Nat.beq i id <;> rfl)
theorem CxOK.push (C:CxOK fe r f dk rd cs cx k) (hκ:jK fe r f dk rd cs κ k) (id:Nat):CxOK fe r f dk rd cs ⟨cx.cl,cx.f,cx.rd,(id,κ)::cx.env,cx.kr,cx.ky⟩ (.blk id k) :=
 ⟨C.hf,C.hrd,C.cl,fun i=>by
  simp only[qv,eP];cases hb:Nat.beq id i
  ·simp only
   exact C.env i
  ·exact .inl ⟨κ,k,rfl,hκ,fun _ _=>rfl⟩,C.kr,C.ky,C.dk⟩
theorem aFO (id:Nat) (o:Op) (cx:Cx) (κ:St):opB id o cx κ=o ⟨cx.cl,cx.f,cx.rd,(id,κ)::cx.env,cx.kr,cx.ky⟩ κ:=by cases cx;rfl
theorem aA1 {v:V} {a b:St} {tm:T V} {s:S} (e:aCN v a b tm s=.ok r):∃ t,v=.bool t∧(match t with|true=>a|false=>b) tm s=.ok r:=by
 cases v <;> try (cases e;done)
 rename_i t;refine ⟨t,rfl,?_⟩;cases t <;> exact e
theorem aDD {pend:Jump} (C:CxOK fe r f dk rd cs cx k) (hκ:jK fe r f dk rd cs κ k) {tm:T V} {h:T O} {nx:Q} {ds:List Df} (e:aFp pend cx κ tm ⟨h,nx,ds⟩=.ok r) :
  ∃ m,(match pend with
   |.none=>run fe m f dk rd ds tm k cs h nx
   |.ret=>run fe m f dk rd ds tm (.code .ret k) cs h nx
   |.exit id=>run fe m f dk rd ds tm (.code (.exit id) k) cs h nx)=.ok r:=by
 cases pend with
 |none=>exact hκ _ _ _ _ e
 |ret=>exact th C _ _ _ _ e
 |exit id=>exact nb C id _ _ _ _ e
theorem xf (C:CxOK fe r f dk rd cs cx k) (hκ:jK fe r f dk rd cs κ k) {tm:T V} {h:T O} {nx:Q} {ds:List Df} (e:jk cx l κ tm h nx ds=.ok r):∃ m,run fe m f dk rd ds tm (.erf l k) cs h nx=.ok r:=by
 unfold jk at e;simp only[fL,bS,mF,cI,m3,gR,cK] at e;obtain ⟨st,pend,fn,tm',ps,asg,body,dfs,ho,e1⟩:=fF e;obtain ⟨h1,e2⟩:=bR e1;obtain ⟨m,hm⟩:=aDD C hκ e2;refine ⟨m+1,?_⟩;have h2:Nat.beq st 1=false:=by simpa using h1
 simp only[dA,aB,bS,ho,lG,cK,h2,Bool.not_false,gd];cases pend <;> exact hm
theorem aGU {x:X} {g:Xg} {ps:List Q} {asg body:C} (hx:XOK g x):jx fe r (.rf x ps asg body) (rfO g ps asg body):=by
 intro f dk rd cs cx k κ C hκ tm h nx ds e
 have e':g tm (fun fv=>vFn fv (fun g fs caps=>@Option.rec Q (fun _=>Res)
   (sqT nx fun n1=>qH fs (.yld n1::caps) fun args=>doT nx (.dfd false) h fun h1=>doT n1 (.loop (.mk 0 .none cx.f tm ps asg body nx)) h1 fun h2=>sqT n1 fun n2 =>
     rY cx (.fn g [] []) args false h2 n2 fun _ h nx'=>jk cx n1 κ tm h nx' (.coll nx::ds))
   (fun l=>qH fs (.yld nx::caps) fun args=>goT l h fun ob=>nF ob fun _ _ _ _ _ _ _ dfs=>doT nx (.loop (.mk 0 .none cx.f tm ps asg body dfs)) h fun h2=>sqT nx fun n2 =>
     rY cx (.fn g [] []) args false h2 n2 fun _ h nx'=>jk cx nx κ tm h nx' ds) cx.rd)
  (fun _=>.bad 95))=.ok r:=e
 rw[hx] at e';obtain ⟨fv,e1,hfv⟩:=jB e';cases fv <;> try (cases e1;done)
 rename_i q fs caps
 have hcall:∀ {args:List V} {c:Fr} {cs:List Fr} {h:T O} {nx:Q} {kret:Kr},xS fe r false (c::cs) kret→rY cx (.fn q [] []) args false h nx kret=.ok r→∃ m,gK fe (run fe m) q args false (c::cs) h nx=.ok r:=fun hk e0=>by
  rw[bc] at e0;obtain ⟨m,hm⟩:=C.cl.plain _ _ _ _ _ _ _ hk e0;refine ⟨m,?_⟩;have hm':r8 _ [] (fun l=>r8 [] l fun l=>gK fe (run fe m) q l false _ _ _)=.ok r:=hm;simpa only [eX,List.append_nil,List.nil_append] using hm'
 cases rd with
 |none =>
  have e2:(sqT nx fun n1=>qH fs (.yld n1::caps) fun args=>doT nx (.dfd false) h fun h1=>doT n1 (.loop (.mk 0 .none cx.f tm ps asg body nx)) h1 fun h2=>sqT n1 fun n2 =>
     rY cx (.fn q [] []) args false h2 n2 fun _ h nx'=>jk cx n1 κ tm h nx' (.coll nx::ds))=.ok r:=by
   have:vFn (.fn q fs caps) _ _=.ok r:=e1
   rw[C.hrd] at this;exact this
  simp only[qI,dO,pM,gR,cK,C.hf] at e2
  obtain ⟨m,hm⟩:=hcall (c:=.mk f dk none (.coll nx::ds) tm (.inrf nx.succ k)) (cs:=cs) (fun v h' nx' e0=>by
   obtain ⟨m,hm⟩:=xf C hκ e0;exact ⟨m,hm⟩) e2
  refine ⟨m+1,?_⟩;simp only[dA,aB,lI,hfv,eX,cK,dO];exact hm
 |some l =>
  have e2:(qH fs (.yld nx::caps) fun args=>goT l h fun ob=>nF ob fun _ _ _ _ _ _ _ dfs=>doT nx (.loop (.mk 0 .none cx.f tm ps asg body dfs)) h fun h2=>sqT nx fun n2 =>
     rY cx (.fn q [] []) args false h2 n2 fun _ h nx'=>jk cx nx κ tm h nx' ds)=.ok r:=by
   have:vFn (.fn q fs caps) _ _=.ok r:=e1
   rw[C.hrd] at this;exact this
  simp only[pM,fL,bS,mF] at e2;obtain ⟨st,pend,fn,tm',ps',asg',body',dfs,ho,e3⟩:=fF e2;simp only[gR,cK,qI,dO,C.hf] at e3
  obtain ⟨m,hm⟩:=hcall (c:=.mk f dk (some l) ds tm (.inrf nx k)) (cs:=cs) (fun v h' nx' e0=>by
   obtain ⟨m,hm⟩:=xf C hκ e0;exact ⟨m,hm⟩) e3
  refine ⟨m+1,?_⟩;simp only[dA,aB,lI,hfv,eX,bS,ho,lG,cK,dO];exact hm
theorem aIP (cd:C):Gd (fun o:Op=>jx fe r cd o) (cC cd):=by
 induction cd with
 |skip =>
  exact .ret fun f dk rd cs cx k κ C hκ tm h nx ds e=>by
   obtain ⟨m,hm⟩:=hκ _ _ _ _ e;exact ⟨m+1,hm⟩
 |reg l =>
  exact (aFi (fe:=fe) (r:=r) l).bind (f:=fun o k=>k o) fun o ho=>.ret fun f dk rd cs cx k κ C hκ tm h nx ds e=>by
   obtain ⟨m,hm⟩:=ho f dk rd cs cx k κ C hκ _ _ _ _ e;exact ⟨m+1,hm⟩
 |seq a b iha ihb =>
  exact iha.bind fun o ho=>ihb.bind fun o' ho'=>.ret fun f dk rd cs cx k κ C hκ tm h nx ds e=>by
   obtain ⟨m,hm⟩:=ho f dk rd cs cx (.code b k) (o' cx κ) (C.to fun _ _ _=>rfl) (ho' f dk rd cs cx k κ C hκ) _ _ _ _ e;exact ⟨m+1,hm⟩
 |cond x a b iha ihb =>
  exact (bL x).bind fun g hg=>iha.bind fun o ho=>ihb.bind fun o' ho'=>.ret fun f dk rd cs cx k κ C hκ tm h nx ds e=>by
   have e':g tm (fun v=>aCN v (o cx κ) (o' cx κ) tm ⟨h,nx,ds⟩)=.ok r:=e;rw[hg] at e';obtain ⟨v,e1,hv⟩:=jB e';obtain ⟨t,rfl,e2⟩:=aA1 e1;cases t with
   |true =>
    obtain ⟨m,hm⟩:=ho f dk rd cs cx k κ C hκ _ _ _ _ e2;refine ⟨m+1,?_⟩;simp only[dA,aB,lI,hv,asB];exact hm
   |false =>
    obtain ⟨m,hm⟩:=ho' f dk rd cs cx k κ C hκ _ _ _ _ e2;refine ⟨m+1,?_⟩;simp only[dA,aB,lI,hv,asB];exact hm
 |block id a ih =>
  exact ih.bind fun o ho=>.ret fun f dk rd cs cx k κ C hκ tm h nx ds e=>by
   rw[aFO] at e
   have hκ':jK fe r f dk rd cs κ (.blk id k):=fun tm h nx ds e0=>by
    obtain ⟨m,hm⟩:=hκ _ _ _ _ e0;exact ⟨m+1,hm⟩
   obtain ⟨m,hm⟩:=ho f dk rd cs _ (.blk id k) κ (C.push hκ id) hκ' _ _ _ _ e;exact ⟨m+1,hm⟩
 |loop a ih =>
  exact ih.bind fun o ho=>.ret fun f dk rd cs cx k κ C hκ tm h nx ds e=>by
   have hl:∀ n,jK fe r f dk rd cs (@Nat.rec (fun _=>St) eH (fun _ again=>o cx again) n) (.lp a k):=fun n=>by
    induction n with
    |zero=>intro tm h nx ds e0;cases e0
    |succ n ihn =>
     intro tm h nx ds e0;obtain ⟨m,hm⟩:=ho f dk rd cs cx (.lp a k) _ (C.to fun _ _ _=>rfl) ihn _ _ _ _ e0;exact ⟨m+1,hm⟩
   obtain ⟨m,hm⟩:=hl 1000000 _ _ _ _ e;cases m with
   |zero=>cases hm
   |succ m=>exact ⟨m+1,hm⟩
 |rf x ps asg body _ _ =>
  exact (bL x).bind fun g hg=>.ret (aGU hg)
 |exit id =>
  exact .ret fun f dk rd cs cx k κ C hκ=>nb C id
 |scope a ih =>
  exact ih.bind (f:=fun o k=>k o) fun o ho=>.ret fun f dk rd cs cx k κ C hκ tm h nx ds e=>by
   have hκ':jK fe r f dk rd cs κ (.sc k):=fun tm h nx ds e0=>by
    obtain ⟨m,hm⟩:=hκ _ _ _ _ e0;exact ⟨m+1,hm⟩
   obtain ⟨m,hm⟩:=ho f dk rd cs cx (.sc k) κ (C.to fun _ _ _=>rfl) hκ' _ _ _ _ e;exact ⟨m+1,hm⟩
 |ret =>
  exact .ret fun f dk rd cs cx k κ C hκ=>th C
 |bad =>
  exact .ret fun f dk rd cs cx k κ C hκ tm h nx ds e=>by cases e
theorem dz (cd:C):jx fe r cd (ly (mkD cd)):=by
 rcases aIP (fe:=fe) (r:=r) cd with ⟨o,ho,h⟩|h
 ·have:mkD cd=⟨o⟩:=h D.mk
  rw[this];exact ho
 ·have:mkD cd=⟨l6⟩:=h D.mk
  rw[this];intro f dk rd cs cx k κ C hκ tm h nx ds e;cases e
theorem sJ (tm:T V) (h:T O):∀ (rs:List RV) (k:List V→Res),ze rs tm h k=gP tm h rs k
 |[],k=>rfl
 |.t q::rs,k=>by
  show gvT q tm (fun v=>ze rs tm h fun l=>k (v::l))=_;rw[ba];simp only[gP,sJ tm h rs]
 |.cell agg n q::rs,k=>by
  show gvT q tm (fun p=>vP p fun o off=>@Bool.rec (fun _=>Res) (ldF h o off fun v=>ze rs tm h fun l'=>k (v::l')) (zx h o off n fun l=>ze rs tm h fun l'=>k (.agg l::l')) agg)=_;rw[ba];simp only[gP,x8];congr 1;funext p;congr 1;funext o off;cases agg
  ·simp only[aBH,sJ tm h rs]
  ·simp only[z7,sJ tm h rs]
theorem aET (l:List V) (k:V→Res):aHM l k=k (aDs l):=by
 cases l with
 |nil=>rfl
 |cons v l=>cases l <;> rfl
theorem kQ {tm:T V} {h:T O}:∀ {rs:List RV} {k:List V→Res},gP tm h rs k=.ok r→∃ vs,k vs=.ok r∧∀ k',gP tm h rs k'=k' vs
 |[],k,e=>⟨[],e,fun _=>rfl⟩
 |.t q::rs,k,e=>by
  simp only[gP,dL] at e;obtain ⟨vs,h1,h2⟩:=kQ e;exact ⟨_::vs,h1,fun k'=>by simp only[gP,dL,h2]⟩
 |.cell agg n q::rs,k,e=>by
  simp only[gP,dL] at e;obtain ⟨o,off,hp,e1⟩:=kN e;cases agg with
  |true =>
   simp only at e1;rcases uz h o off n with ⟨l,hl⟩|⟨b,hl⟩
   ·rw[hl] at e1
    obtain ⟨vs,h1,h2⟩:=kQ e1;exact ⟨_,h1,fun k'=>by simp only[gP,dL,hp,asP,hl,h2]⟩
   ·rw[hl] at e1;cases e1
  |false =>
   simp only at e1;rcases (show Tot (ldK h o off) from (jE o h).bind fun ob=>(vo ob).bind fun n t=>(dV (Nat.blt off n) 46).bind (Ψ:=fun k=>qnK off fun q=>gV q t k) (.inl ⟨t.get V.undef (qn off),fun k=>rfl⟩)) with ⟨l,hl⟩|⟨b,hl⟩
   ·rw[hl] at e1
    obtain ⟨vs,h1,h2⟩:=kQ e1;exact ⟨_,h1,fun k'=>by simp only[gP,dL,hp,asP,hl,h2]⟩
   ·rw[hl] at e1;cases e1
theorem aFW {cl:Cl} {rs:List RV} {kret:Kr} {body:C} (hcl:lz fe r cl) (hf:fe f=.mk body rs) (hk:xS fe r dk cs kret):jK fe r f dk none cs (nq cl rs kret) .rtn:=by
 intro tm h nx ds e;have e':aAS ds cl rs kret tm h nx=.ok r:=e;clear e;induction ds generalizing h nx with
 |nil =>
  have e1:ze rs tm h (fun vs=>aHM vs fun v=>kret v h nx)=.ok r:=e';rw[sJ] at e1;obtain ⟨vs,h1,h2⟩:=kQ e1;rw[aET] at h1;obtain ⟨m,hm⟩:=hk _ _ _ h1;refine ⟨m+1,?_⟩;simp only[dA,aB,ez,mU,hf,h2];exact hm
 |cons d ds ih =>
  cases d with
  |call q args =>
   have e1:cl (.fn q [] []) args true h nx (fun _ h' nx'=>aAS ds cl rs kret tm h' nx')=.ok r:=e'
   obtain ⟨m,hm⟩:=hcl.dfd q args f dk none ds tm cs h nx _ (fun v h' nx' e0=>by
    obtain ⟨m,hm⟩:=ih h' nx' e0;exact ⟨m,hm⟩) e1
   exact ⟨m+1,hm⟩
  |coll q =>
   have e1:aAH q (fun h' nx'=>aAS ds cl rs kret tm h' nx') h nx=.ok r:=e';simp only[aAH,bS] at e1
   split at e1
   ·rename_i ho
    rw[cK] at e1;obtain ⟨m,hm⟩:=ih _ _ e1;refine ⟨m+1,?_⟩;simp only[dA,aB,ez,bS,ho,cK];exact hm
   ·cases e1
  |del s m key =>
   have e1:aHo s m key (fun h' nx'=>aAS ds cl rs kret tm h' nx') h nx=.ok r:=e';unfold aHo at e1;rcases qL s key with hkc|⟨n,hkc⟩
   ·rw[hkc] at e1
    cases m <;> try (cases e1;done)
    rename_i o;simp only[bS] at e1;rcases ud (h.ob o) with ⟨es,hes⟩|⟨n,hes⟩
    ·rw[hes] at e1
     rcases (show Tot (aj s h key es) from by
      clear e1 hes;induction es with
      |nil=>exact .ret _
      |cons p es ihe =>
       obtain ⟨y,u⟩:=p;simp only[show aj s h key ((y,u)::es)=fun k=>dS s h key y fun b=>(match b with|true=>k es|false=>aj s h key es fun es'=>k ((y,u)::es')) from rfl];refine (yL s h key y).bind fun b=>?_
       cases b
       ·exact ihe.bind fun es'=>.ret _
       ·exact .ret es) with ⟨es',hd⟩|⟨n,hd⟩
     ·rw[hd,cK] at e1
      obtain ⟨m,hm⟩:=ih _ _ e1;refine ⟨m+1,?_⟩;simp only[dA,aB,ez,hkc,bS,hes,hd,cK];exact hm
     ·rw[hd] at e1;cases e1
    ·rw[hes] at e1;cases e1
   ·rw[hkc] at e1;cases e1
theorem ri {cl:Cl} {rs:List RV} {kret:Kr} {body:C} {tm:T V} {h:T O} {nx:Q} (hcl:lz fe r cl) (hf:fe f=.mk body rs) (hk:xS fe r dk cs kret)
  (hdk:dk=true→∃ f2 dk2 rd2 ds2 tm2 cs',cs=.mk f2 dk2 rd2 ds2 tm2 .rtn::cs') (e:ew (ly (mkD body)) cl f tm h nx (nq cl rs kret)=.ok r) :
  ∃ m,run fe m f dk none [] tm (.code body .nil) cs h nx=.ok r:=by
 have hr:=aFW (f:=f) (dk:=dk) hcl hf hk
 have hn:jK fe r f dk none cs (nq cl rs kret) .nil:=fun tm h nx ds e0=>by
  obtain ⟨m,hm⟩:=hr _ _ _ _ e0;exact ⟨m+1,hm⟩
 exact dz body f dk none cs ⟨cl,f,none,[],nq cl rs kret,aFy⟩ .nil _ ⟨rfl,rfl,hcl,fun id=>.inr ⟨rfl,fun _ _=>rfl⟩,fun _=>hr,fun _ h0=>(by cases h0),hdk⟩ hn _ _ _ _ e
theorem gh (vs:List V) (k:T V→Res):x9 vs 0 .nil k=uG vs .e .nil k:=by
 rw[xk,j7,show (Q.e:Q)=qn 0 from rfl,wS]
theorem aCi {cl:Cl} {kret:Kr} {g:Q} {args:List V} {h:T O} {nx:Q} (hcl:lz fe r cl) (hk:xS fe r dk (c::cs) kret)
  (hdk:dk=true→∃ f2 dk2 rd2 ds2 tm2 cs',c::cs=.mk f2 dk2 rd2 ds2 tm2 .rtn::cs') (e:cfF (fe g) cl g args dk h nx kret=.ok r):∃ m,gK fe (run fe m) g args dk (c::cs) h nx=.ok r:=by
 cases hc:fe g with
 |none=>rw[hc] at e;cases e
 |mk body rs =>
  rw[hc] at e;have e1:x9 args 0 .nil (fun tm=>ew (ly (mkD body)) cl g tm h nx (nq cl rs kret))=.ok r:=e;rw[gh,j7] at e1;obtain ⟨m,hm⟩:=ri hcl hc hk hdk e1;refine ⟨m,?_⟩;simp only[gK,mU,hc,j7];exact hm
 |ext n =>
  rw[hc] at e;cases dk with
  |true=>cases e
  |false =>
   have e1:eg n args (fun v=>kret v h nx)=.ok r:=e
   have tot_i:∀ v,Tot (aEv v):=fun v=>by
    cases v <;> first|exact .bad _|skip
    rename_i kd n;cases kd <;> first|exact .bad _|skip
    cases n <;> first|exact .bad _|exact (dV _ _).bind (.ret _)
   have hfb:∀ cc l s i,Tot (rS cc l s i):=fun cc l=>by
    induction l with
    |zero=>intro s i;exact .ret _
    |succ l ih =>
     intro s i;simp only[show rS cc (l+1) s i=fun k=>(match Nat.beq (s % 256) cc with|true=>k (.ofNat i)|false=>aX (s / 256) fun s'=>aX (i+1) fun i'=>rS cc l s' i' k) from rfl];cases Nat.beq (s % 256) cc
     ·exact (cN _).bind fun s'=>(cN _).bind fun i'=>ih s' i'
     ·exact .ret _
   have hcb:∀ cc l s n,Tot (wZ cc l s n):=fun cc l=>by
    induction l with
    |zero=>intro s n;exact .ret _
    |succ l ih =>
     intro s n;simp only[show wZ cc (l+1) s n=fun k=>(match Nat.beq (s % 256) cc with|true=>aX (s / 256) fun s'=>aX (n+1) fun n'=>wZ cc l s' n' k|false=>aX (s / 256) fun s'=>wZ cc l s' n k) from rfl];cases Nat.beq (s % 256) cc
     ·exact (cN _).bind fun s'=>ih s' n
     ·exact (cN _).bind fun s'=>(cN _).bind fun n'=>ih s' n'
   have ht:Tot (eg n args):=by
    unfold eg;split
    ·split
     ·exact (aBB _).bind fun l s=>(tot_i _).bind fun c=>(hfb _ _ _ _).bind fun i=>.ret _
     ·exact .bad _
    ·split
     ·exact (aBB _).bind fun l s=>(tot_i _).bind fun c=>(hcb _ _ _ _).bind fun i=>.ret _
     ·exact .bad _
    ·split
     ·exact .ret _
     ·exact .bad _
   rcases ht with ⟨v,hv⟩|⟨b,hv⟩
   ·rw[hv] at e1
    obtain ⟨m,hm⟩:=hk _ _ _ e1;refine ⟨m,?_⟩;simp only[gK,mU,hc,hv];exact hm
   ·rw[hv] at e1;cases e1
theorem sn:∀ (ps:List Q) (vs:List V) (t:T V) (k:T V→Res),aHj ps vs t k=oj ps vs t k
 |[],[],t,k=>rfl
 |[],_::_,t,k=>rfl
 |_::_,[],t,k=>rfl
 |p::ps,v::vs,t,k=>by
  show dvT p v t (fun t'=>aHj ps vs t' k)=_;simp only[qm,sn ps vs,oj]
theorem ru:∀ (ps:List Q) (vs:List V) (t:T V),Tot (oj ps vs t)
 |[],[],t=>.ret t
 |[],_::_,t=>.bad _
 |_::_,[],t=>.bad _
 |p::ps,v::vs,t=>(show Tot (pV v p t) from .inl ⟨_,fun k=>tg v p t k⟩).bind fun t'=>ru ps vs t'
theorem aBp {cl:Cl} {kret:Kr} {args:List V} {h:T O} {nx:Q} (hcl:lz fe r cl) (hk:xS fe r false (c::cs) kret) (e:pf cl l args h nx kret=.ok r):∃ m,dD fe (run fe m) (.yld l) args (c::cs) h nx=.ok r:=by
 unfold pf at e;simp only[fL,bS,mF] at e;obtain ⟨st,pend,fn,tm,ps,asg,body,dfs,ho,e1⟩:=fF e;rw[sn] at e1;rcases ru ps args tm with ⟨tm',ht⟩|⟨b,ht⟩
 ·rw[ht] at e1
  have hcx:∀ k,(∀ id kf kn,eP id k kf kn=kn)→CxOK fe r fn false (some l) (c::cs) ⟨cl,fn,some l,[],eH,kret⟩ k:=fun k hke =>
   ⟨rfl,rfl,hcl,fun id=>.inr ⟨rfl,fun kf kn=>hke id kf kn⟩,fun h0=>(by cases h0),fun l' h0=>(by cases h0;exact ⟨c,cs,rfl,hk⟩),fun h0=>(by cases h0)⟩
  have hend:jK fe r fn false (some l) (c::cs) (fun _ s=>zp l .none 0 true kret s) .nil:=fun tm h nx ds e0=>by
   obtain ⟨m,hm⟩:=z9 (st:=0) (b:=true) (ds:=ds) rfl hk e0;exact ⟨m+1,hm⟩
  have hbody:jK fe r fn false (some l) (c::cs) (aFK cl l fn body kret) (.begin (.code body .nil)):=fun tm h nx ds e0=>by
   have e2:goT l h (fun ob=>nF ob fun st pend fn' tm' params asg body' dfs=>gdF (Nat.beq st 0) 104 (doT l (.loop (.mk 1 pend fn' tm' params asg body' dfs)) h fun h' =>
    ly (mkD body) ⟨cl,fn,some l,[],eH,kret⟩ (fun _ s=>zp l .none 0 true kret s) tm ⟨h',nx,ds⟩))=.ok r:=e0
   simp only[fL,bS,mF,cI,gR,cK] at e2;obtain ⟨st,pend,fn',tm',ps',asg',body',dfs,ho,e3⟩:=fF e2;obtain ⟨h1,e4⟩:=bR e3;obtain ⟨m,hm⟩:=dz body fn false (some l) (c::cs) _ .nil _ (hcx .nil fun _ _ _=>rfl) hend _ _ _ _ e4;refine ⟨m+1,?_⟩;simp only[dA,aB,bS,ho,lG,h1,gd,cK];exact hm
  obtain ⟨m,hm⟩:=dz asg fn false (some l) (c::cs) _ (.begin (.code body .nil)) _ (hcx _ fun _ _ _=>rfl) hbody _ _ _ _ e1;refine ⟨m,?_⟩;simp only[dD,bS,ho,lG,ht];exact hm
 ·rw[ht] at e1;cases e1
theorem aH4 {cl:Cl} (hcl:lz fe r cl):lz fe r (aJE fe cl):=by
 constructor
 ·intro fv args c cs h nx kret hk e
  cases fv <;> try (cases e;done)
  ·rename_i q fs caps
   have e1:zd fs args caps (fun l=>cfF (fe q) cl q l false h nx kret)=.ok r:=e;rw[cg] at e1;obtain ⟨m,hm⟩:=aCi hcl hk (fun h0=>by cases h0) e1;refine ⟨m,?_⟩;simp only[dD,eX];exact hm
  ·exact aBp hcl hk e
 ·intro g args f2 dk2 rd2 ds2 tm2 cs h nx kret hk e
  have e1:zd [] args [] (fun l=>cfF (fe g) cl g l true h nx kret)=.ok r:=e;rw[cg] at e1;simp only[List.nil_append,List.append_nil] at e1;exact aCi hcl hk (fun _=>⟨f2,dk2,rd2,ds2,tm2,cs,rfl⟩) e1
theorem mw:∀ n,lz fe r (my fe n)
 |0=>⟨fun _ _ _ _ _ _ _ _ e=>(by cases e),fun _ _ _ _ _ _ _ _ _ _ _ _ e=>(by cases e)⟩
 |n+1=>aH4 (mw n)
theorem aD4 {n:Nat} {g:Q} {args:List V} {nx:Q} {body:C} {rs:List RV} (hg:fe g=.mk body rs) (e:runF fe (n+1) g args nx=.ok r):∃ m,uG args .e .nil (fun tm=>run fe m g false none [] tm (.code body .nil) [] .nil nx)=.ok r:=by
 have e1:zd [] args [] (fun l=>cfF (fe g) (my fe n) g l false .nil nx fun v h _=>.ok (fin v h))=.ok r:=e;rw[cg,hg] at e1;simp only[List.nil_append,List.append_nil] at e1;have e2:x9 args 0 .nil (fun tm=>ew (ly (mkD body)) (my fe n) g tm .nil nx (nq (my fe n) rs fun v h _=>.ok (fin v h)))=.ok r:=e1;rw[gh,j7] at e2;obtain ⟨m,hm⟩:=ri (dk:=false) (cs:=[]) (mw n) hg (fun v h nx e0=>⟨0,e0⟩) (fun h0=>by cases h0) e2;exact ⟨m,by rw[j7];exact hm⟩
end Go.CM
end
noncomputable section
namespace Go.CM
set_option maxRecDepth 1000000
set_option maxHeartbeats 0
def fe26:Q→CF:=mkT Go.Proofs.Tryz.prog
theorem yw:Go.Proofs.Tryz.prog.follows .mixedOrders=true:=by kernel_rfl
theorem yB:Go.Proofs.Tryz.prog.globals.size=8:=by kernel_rfl
theorem aI0:aFn Go.Proofs.Tryz.prog=true:=by kernel_rfl
def isMk:CF→Bool
 |.mk _ _=>true
 |_=>false
theorem aED {c:CF} (h:isMk c=true):∃ b rs,c=.mk b rs:=by
 cases c with
 |mk b rs=>exact ⟨b,rs,rfl⟩
 |none=>cases h
 |ext n=>cases h
theorem call26 {g n:Nat} {vs:List V} {us:List Value} {v:V} (hc:isMk (compF Go.Proofs.Tryz.prog g)=true) (hv:∀ ρ:Rho,VRs ρ vs us) (e:runF fe26 (n+1) (qn g) vs (qn 8)=.ok v) (w:World) (hw:8≤w.heap.size) (c:Frame) (cs:List Frame) :
  ∃ (w':World) (ρ':Rho) (h':T O) (nx':Q) (u:Value) (x:V),Steps Go.Proofs.Tryz.prog (lone (Frame.enter Go.Proofs.Tryz.prog g ⟨us⟩ .normal) (c::cs) w) (lone (c.finish u) cs w')∧HR Go.Proofs.Tryz.prog w ρ' h' nx' w'∧VR ρ' x u∧fin x h'=v:=by
 obtain ⟨body,rs,hc⟩:=aED hc;have hfe:fe26 (qn g)=.mk body rs:=by simp only[fe26,mkT,dY];exact hc
 obtain ⟨m,hm⟩:=aD4 (n:=n) hfe e;exact aB8 (fe:=fe26) yw (aHZ _) (aGe aI0) hc hv (by rw[yB];exact hm) w (by rw[yB];exact hw) c cs
end Go.CM
end
