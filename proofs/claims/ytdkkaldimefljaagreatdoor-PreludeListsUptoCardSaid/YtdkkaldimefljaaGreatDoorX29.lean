import Derived.Test.YtdkkaldimefljaaGreatDoorX28
import Derived.Test.YtdkkaldimefljaaGreatDoorX24
import Derived.Test.YtdkkaldimefljaaGreatDoorX26
import Derived.Test.YtdkkaldimefljaaGreatDoorProg
import Derived.KernelRfl
set_option linter.all false
noncomputable section
namespace Go.CM
def putW (tm : T V) (d : Option Q) (v : V) : T V :=
  match d with
  | some q => tm.put V.undef v q
  | none => tm
theorem putDq (d : Option Q) (v : V) (tm : T V) (k : T V → Res) : putD d v tm k = k (putW tm d v) := by
  cases d <;> rfl
def retTo (ih : Run) (dk : Bool) (cs : List Fr) (v : V) (h : T O) (nx : Q) : Res :=
  match cs with
  | [] => (match dk with
    | false => .ok v
    | true => .bad 99)
  | c :: cs' => (match dk with
    | false => finK ih c cs' v h nx
    | true => (match c with
      | .mk f2 dk2 rd2 ds2 tm2 .rtn => ih f2 dk2 rd2 ds2 tm2 .rtn cs' h nx
      | _ => .bad 100))
def lookL : List (Nat × St) → Nat → Option St
  | [], _ => none
  | (i, κ) :: r, id => (match Nat.beq i id with
    | true => some κ
    | false => lookL r id)
theorem lookF_eq (id : Nat) (kn : St) : ∀ env, lookF env id kn = (lookL env id).getD kn
  | [] => rfl
  | (i, κ) :: r => by
    show @Bool.rec (fun _ => St → (Nat → St → St) → Nat → St → St) _ _ (Nat.beq i id) κ (lookF r) id kn = _
    simp only [lookL]
    cases Nat.beq i id
    · exact lookF_eq id kn r
    · rfl
theorem run_succ (fe : Q → CF) (m : Nat) (f : Q) (dk : Bool) (rd : Option Q) (ds : List Df) (tm : T V) (k : K) (cs : List Fr) (h : T O) (nx : Q) : run fe (m + 1) f dk rd ds tm k cs h nx = stepK fe (run fe m) f dk rd ds tm k cs h nx := rfl
section
variable (fe : Q → CF) (r : V)
def StOK (f : Q) (dk : Bool) (rd : Option Q) (cs : List Fr) (κ : St) (k : K) : Prop := ∀ tm h nx ds, κ tm ⟨h, nx, ds⟩ = .ok r → ∃ m, run fe m f dk rd ds tm k cs h nx = .ok r
def KrOK (dk : Bool) (cs : List Fr) (kret : Kr) : Prop := ∀ v h nx, kret v h nx = .ok r → ∃ m, retTo (run fe m) dk cs v h nx = .ok r
structure ClOK (cl : Cl) : Prop where
  plain : ∀ fv args c cs h nx kret, KrOK fe r false (c :: cs) kret → cl fv args false h nx kret = .ok r → ∃ m, callK fe (run fe m) fv args (c :: cs) h nx = .ok r
  dfd : ∀ g args f2 dk2 rd2 ds2 tm2 cs h nx kret, KrOK fe r true (.mk f2 dk2 rd2 ds2 tm2 .rtn :: cs) kret → cl (.fn g [] []) args true h nx kret = .ok r → ∃ m, enterK fe (run fe m) g args true (.mk f2 dk2 rd2 ds2 tm2 .rtn :: cs) h nx = .ok r
def EnvOK (f : Q) (dk : Bool) (rd : Option Q) (cs : List Fr) (env : List (Nat × St)) (k : K) : Prop :=
  ∀ id, (∃ κ k', lookL env id = some κ ∧ StOK fe r f dk rd cs κ k' ∧ ∀ kf kn, exitK id k kf kn = kf k') ∨ (lookL env id = none ∧ ∀ kf kn, exitK id k kf kn = kn)
structure CxOK (f : Q) (dk : Bool) (rd : Option Q) (cs : List Fr) (cx : Cx) (k : K) : Prop where
  hf : cx.f = f
  hrd : cx.rd = rd
  cl : ClOK fe r cx.cl
  env : EnvOK fe r f dk rd cs cx.env k
  kr : rd = none → StOK fe r f dk rd cs cx.kr .rtn
  ky : ∀ l, rd = some l → ∃ c cs', cs = c :: cs' ∧ KrOK fe r false (c :: cs') cx.ky
  dk : dk = true → ∃ f2 dk2 rd2 ds2 tm2 cs', cs = .mk f2 dk2 rd2 ds2 tm2 .rtn :: cs'
def OpOK (c : C) (o : Op) : Prop := ∀ f dk rd cs cx k κ, CxOK fe r f dk rd cs cx k → StOK fe r f dk rd cs κ k → StOK fe r f dk rd cs (o cx κ) (.code c k)
def LOK (l : List PS) (o : Op) : Prop := ∀ f dk rd cs cx k κ, CxOK fe r f dk rd cs cx k → StOK fe r f dk rd cs κ k → StOK fe r f dk rd cs (o cx κ) (.reg l k)
def PsOK (p : PS) (o : Op) : Prop := ∀ f dk rd cs cx k κ l, CxOK fe r f dk rd cs cx k → StOK fe r f dk rd cs κ (.reg l k) → StOK fe r f dk rd cs (o cx κ) (.reg (p :: l) k)
def ObOK (b : OB) (dst : Option Q) (o : Op) : Prop := ∀ f dk rd cs cx k κ l g, CxOK fe r f dk rd cs cx k → StOK fe r f dk rd cs κ (.reg l k) →
  ∀ tm h nx ds, o cx κ tm ⟨h, nx, ds⟩ = .ok r → ∃ m, opK fe (run fe m) f dk rd ds tm dst b l (.op (.mk dst g b) :: l) k cs h nx = .ok r
end
variable {fe : Q → CF} {r : V} {f : Q} {dk : Bool} {rd : Option Q} {cs : List Fr} {cx : Cx} {k k' : K} {κ : St} {env : List (Nat × St)} {l : Q} {c : Fr}
theorem CxOK.to (C : CxOK fe r f dk rd cs cx k) (h : ∀ id kf kn, exitK id k' kf kn = exitK id k kf kn) : CxOK fe r f dk rd cs cx k' :=
  ⟨C.hf, C.hrd, C.cl, fun id => by
    rcases C.env id with ⟨κ, k1, h1, h2, h3⟩ | ⟨h1, h2⟩
    · exact .inl ⟨κ, k1, h1, h2, fun kf kn => (h id kf kn).trans (h3 kf kn)⟩
    · exact .inr ⟨h1, fun kf kn => (h id kf kn).trans (h2 kf kn)⟩, C.kr, C.ky, C.dk⟩
theorem endF_ok {j : Jump} {st : Nat} {b : Bool} {ky : Kr} {h : T O} {nx : Q} {ds : List Df} (hst : st = match b with | true => 0 | false => 2) (hk : KrOK fe r false (c :: cs) ky) (e : endF l j st b ky ⟨h, nx, ds⟩ = .ok r) : ∃ m, endK (run fe m) l j b (c :: cs) h nx = .ok r := by
  have e' : goT l h (fun ob => loopF ob fun _ _ fn tm params asg body dfs => doT l (.loop (.mk st j fn tm params asg body dfs)) h fun h' => ky (.bool b) h' nx) = .ok r := e
  simp only [goT_eq, gO_eq, loopF_eq, doT_eq, pO_eq] at e'
  obtain ⟨st', pend, fn, tm, ps, asg, body, dfs, ho, e1⟩ := loopO_ok e'
  obtain ⟨m, hm⟩ := hk _ _ _ e1
  refine ⟨m, ?_⟩
  simp only [endK, gO_eq, ho, loopO, pO_eq]
  subst hst
  exact hm
theorem exitF_ok (C : CxOK fe r f dk rd cs cx k) (id : Nat) : StOK fe r f dk rd cs (exitF cx id) (.code (.exit id) k) := by
  intro tm h nx ds e
  obtain ⟨cl, f', rd', env, kr, ky⟩ := cx
  have hrd := C.hrd
  simp only at hrd
  subst hrd
  have e' : lookF env id (@Option.rec Q (fun _ => Nat → Kr → St) kn94 kn94' rd' id ky) tm ⟨h, nx, ds⟩ = .ok r := e
  rw [lookF_eq] at e'
  rcases C.env id with ⟨κ, k1, h1, h2, h3⟩ | ⟨h1, h2⟩
  · simp only at h1
    rw [h1] at e'
    obtain ⟨m, hm⟩ := h2 tm h nx ds e'
    refine ⟨m + 1, ?_⟩
    show exitK id k _ _ = .ok r
    rw [h3]; exact hm
  · simp only at h1
    rw [h1] at e'
    cases rd' with
    | none => cases e'
    | some l =>
      obtain ⟨c, cs', rfl, hk⟩ := C.ky l rfl
      obtain ⟨m, hm⟩ := endF_ok (st := 2) (b := false) (ds := ds) rfl hk e'
      refine ⟨m + 1, ?_⟩
      show exitK id k _ _ = .ok r
      rw [h2]; exact hm
theorem retF_ok (C : CxOK fe r f dk rd cs cx k) : StOK fe r f dk rd cs (retF cx) (.code .ret k) := by
  intro tm h nx ds e
  obtain ⟨cl, f', rd', env, kr, ky⟩ := cx
  have hrd := C.hrd
  simp only at hrd
  subst hrd
  cases rd' with
  | none =>
    obtain ⟨m, hm⟩ := C.kr rfl tm h nx ds e
    exact ⟨m + 1, hm⟩
  | some l =>
    obtain ⟨c, cs', rfl, hk⟩ := C.ky l rfl
    obtain ⟨m, hm⟩ := endF_ok (st := 2) (b := false) (ds := ds) rfl hk e
    exact ⟨m + 1, hm⟩
section
variable {dst : Option Q}
theorem opP_ok {b : PB} {p : Pg} {d : Dt} (hp : POK p b) (hd : DOK d dst) : ObOK fe r (.p b) dst (opP p d) := by
  intro f dk rd cs cx k κ l g C hκ tm h nx ds e
  have e' : p tm h (fun v => d v tm fun tm' => κ tm' ⟨h, nx, ds⟩) = .ok r := e
  rw [hp] at e'
  obtain ⟨v, h1, h2⟩ := pK_split e'
  rw [hd, putDq] at h2
  obtain ⟨m, hm⟩ := hκ _ _ _ _ h2
  refine ⟨m, ?_⟩
  simp only [opK]
  rw [pK_nat, h1]
  simp only [bindR, putDq]
  exact hm
theorem opA_ok {b : AB} {a : Ag} {d : Dt} (ha : AOK a b) (hd : DOK d dst) : ObOK fe r (.a b) dst (opA a d) := by
  intro f dk rd cs cx k κ l g C hκ tm h nx ds e
  have e' : a tm (fun ob mk => doT nx ob h fun h' => d (mk nx) tm fun tm' => sqT nx fun nx' => κ tm' ⟨h', nx', ds⟩) = .ok r := e
  rw [ha] at e'
  obtain ⟨ob, mk, h1, h2⟩ := aK_split e'
  simp only [doT_eq, pO_eq, hd _ _ _, putDq, sqT_eq, succK_eq] at h2
  obtain ⟨m, hm⟩ := hκ _ _ _ _ h2
  refine ⟨m, ?_⟩
  simp only [opK]
  rw [h1]
  simp only [pO_eq, putDq, succK_eq]
  exact hm
theorem opW_ok {b : WB} {w : Wg} {d : Dt} (hw : WOK w b) (hd : DOK d dst) : ObOK fe r (.w b) dst (opW w d) := by
  intro f dk rd cs cx k κ l g C hκ tm h nx ds e
  have e' : w tm h nx (fun v h' nx' => d v tm fun tm' => κ tm' ⟨h', nx', ds⟩) = .ok r := e
  rw [hw] at e'
  obtain ⟨v, h', nx', h1, h2⟩ := wK_split e'
  rw [hd, putDq] at h1
  obtain ⟨m, hm⟩ := hκ _ _ _ _ h1
  refine ⟨m, ?_⟩
  simp only [opK, h2, putDq]
  exact hm
theorem kr_call {d : Dt} {ob : OB} {g : Option (Q × Bool)} {l : List PS} {tm : T V} {ds : List Df} (hd : DOK d dst) (hκ : StOK fe r f dk rd cs κ (.reg l k)) :
    KrOK fe r false (.mk f dk rd ds tm (.reg (.op (.mk dst g ob) :: l) k) :: cs) fun v h' nx' => d v tm fun tm' => κ tm' ⟨h', nx', ds⟩ := by
  intro v h nx e
  have e : d v tm (fun tm' => κ tm' ⟨h, nx, ds⟩) = .ok r := e
  rw [hd, putDq] at e
  obtain ⟨m, hm⟩ := hκ _ _ _ _ e
  refine ⟨m, ?_⟩
  simp only [retTo, finK, putDq]
  exact hm
theorem cxCl_eq (cx : Cx) : cxCl cx = cx.cl := by cases cx; rfl
theorem opCall_ok {x : X} {xs : List X} {g : Xg} {gs : Xs} {d : Dt} (hx : XOK g x) (hxs : XsOK gs xs) (hd : DOK d dst) : ObOK fe r (.call x xs) dst (opCall g gs d) := by
  intro f dk rd cs cx k κ l gg C hκ tm h nx ds e
  have e' : g tm (fun fv => gs tm fun vs => cxCl cx fv vs false h nx fun v h' nx' => d v tm fun tm' => κ tm' ⟨h', nx', ds⟩) = .ok r := e
  rw [hx] at e'
  obtain ⟨fv, h1, h2⟩ := xK_split e'
  rw [hxs] at h1
  obtain ⟨vs, h3, h4⟩ := xsK_split h1
  rw [cxCl_eq] at h3
  obtain ⟨m, hm⟩ := C.cl.plain _ _ (.mk f dk rd ds tm (.reg (.op (.mk dst gg (.call x xs)) :: l) k)) cs _ _ _ (kr_call hd hκ) h3
  refine ⟨m, ?_⟩
  simp only [opK, h2, h4]
  exact hm
theorem methF_eq (t : Nat) (k : Q → Res) : ∀ ms, methF ms t k = methK t ms k
  | [] => rfl
  | (u, f) :: ms => by
    show ifF (Nat.beq u t) (k f) (methF ms t k) = _
    rw [ifF_eq, methF_eq t k ms]
    simp only [methK]
    cases Nat.beq u t <;> rfl
theorem tot_meth (t : Nat) : ∀ ms, Tot (methK t ms)
  | [] => .bad _
  | (u, f) :: ms => by
    simp only [show methK t ((u, f) :: ms) = fun k => (match Nat.beq u t with | true => k f | false => methK t ms k) from rfl]
    cases Nat.beq u t
    · exact tot_meth t ms
    · exact .ret f
theorem vIfc_ok {v : V} {kk : Nat → V → Res} (e : vIfc v kk = .ok r) : ∃ t u, v = .ifc t u ∧ kk t u = .ok r := by
  cases v <;> first | (cases e; done) | exact ⟨_, _, rfl, e⟩
theorem opInv_ok {ms : List (Nat × Q)} {x : X} {xs : List X} {g : Xg} {gs : Xs} {d : Dt} (hx : XOK g x) (hxs : XsOK gs xs) (hd : DOK d dst) : ObOK fe r (.inv ms x xs) dst (opInv ms g gs d) := by
  intro f dk rd cs cx k κ l gg C hκ tm h nx ds e
  have e' : g tm (fun v => gs tm fun vs => vIfc v fun t u => methF ms t fun f => cxCl cx (.fn f [] []) (u :: vs) false h nx fun v h' nx' => d v tm fun tm' => κ tm' ⟨h', nx', ds⟩) = .ok r := e
  rw [hx] at e'
  obtain ⟨v, h1, h2⟩ := xK_split e'
  rw [hxs] at h1
  obtain ⟨vs, h3, h4⟩ := xsK_split h1
  obtain ⟨t, u, rfl, h5⟩ := vIfc_ok h3
  rw [methF_eq] at h5
  rcases tot_meth t ms with ⟨q, h6⟩ | ⟨n, h6⟩
  · rw [h6, cxCl_eq] at h5
    obtain ⟨m, hm⟩ := C.cl.plain _ _ (.mk f dk rd ds tm (.reg (.op (.mk dst gg (.inv ms x xs)) :: l) k)) cs _ _ _ (kr_call hd hκ) h5
    refine ⟨m, ?_⟩
    simp only [opK, h2, h4, invK, h6]
    exact hm
  · rw [h6] at h5; cases h5
theorem opDfr_ok {x : X} {xs : List X} {g : Xg} {gs : Xs} {d : Dt} (hx : XOK g x) (hxs : XsOK gs xs) (hd : DOK d dst) : ObOK fe r (.dfr x xs) dst (opDfr g gs d) := by
  intro f dk rd cs cx k κ l gg C hκ tm h nx ds e
  simp only [opDfr, C.hrd] at e
  cases rd with
  | some l => cases e
  | none =>
    simp only at e
    rw [hx] at e
    obtain ⟨fv, h1, h2⟩ := xK_split e
    rw [hxs] at h1
    obtain ⟨vs, h3, h4⟩ := xsK_split h1
    split at h3
    · rename_i q fs caps
      simp only [appX_eq, hd _ _ _, putDq] at h3
      obtain ⟨m, hm⟩ := hκ _ _ _ _ h3
      refine ⟨m, ?_⟩
      simp only [opK, h2, h4, appX_eq, putDq]
      exact hm
    · cases h3
theorem opDfd_ok {s : KK} {x y : X} {g g' : Xg} {d : Dt} (hx : XOK g x) (hy : XOK g' y) (hd : DOK d dst) : ObOK fe r (.dfd s x y) dst (opDfd s g g' d) := by
  intro f dk rd cs cx k κ l gg C hκ tm h nx ds e
  simp only [opDfd, C.hrd] at e
  cases rd with
  | some l => cases e
  | none =>
    simp only at e
    rw [hx] at e
    obtain ⟨mv, h1, h2⟩ := xK_split e
    rw [hy] at h1
    obtain ⟨kv, h3, h4⟩ := xK_split h1
    simp only [hd _ _ _, putDq] at h3
    obtain ⟨m, hm⟩ := hκ _ _ _ _ h3
    refine ⟨m, ?_⟩
    simp only [opK, h2, h4, putDq]
    exact hm
theorem opRcv_ok {d : Dt} (hd : DOK d dst) : ObOK fe r .rcv dst (opRcv d) := by
  intro f dk rd cs cx k κ l gg C hκ tm h nx ds e
  simp only [opRcv, C.hrd] at e
  cases rd with
  | some l => cases e
  | none =>
    simp only [hd _ _ _, putDq] at e
    obtain ⟨m, hm⟩ := hκ _ _ _ _ e
    refine ⟨m, ?_⟩
    simp only [opK, recK, putDq]
    cases dk with
    | false => exact hm
    | true =>
      obtain ⟨f2, dk2, rd2, ds2, tm2, cs', rfl⟩ := C.dk rfl
      exact hm
theorem cOB_ok {d : Dt} (hd : DOK d dst) (b : OB) : Gd (fun o : Op => ObOK fe r b dst o) (cOB b d) := by
  cases b with
  | p b => exact (cP_ok b).bind fun _ h => .ret (opP_ok h hd)
  | a b => exact (cA_ok b).bind fun _ h => .ret (opA_ok h hd)
  | w b => exact (cW_ok b).bind fun _ h => .ret (opW_ok h hd)
  | call x xs => exact (cX_ok x).bind fun _ h => (cXs_ok xs).bind fun _ h1 => .ret (opCall_ok h h1 hd)
  | inv ms x xs => exact (cX_ok x).bind fun _ h => (cXs_ok xs).bind fun _ h1 => .ret (opInv_ok h h1 hd)
  | dfr x xs => exact (cX_ok x).bind fun _ h => (cXs_ok xs).bind fun _ h1 => .ret (opDfr_ok h h1 hd)
  | dfd s x y => exact (cX_ok x).bind fun _ h => (cX_ok y).bind fun _ h1 => .ret (opDfd_ok h h1 hd)
  | rcv => exact .ret (opRcv_ok hd)
end
theorem ob_ps {dst : Option Q} {b : OB} {o : Op} (h : ObOK fe r b dst o) : PsOK fe r (.op (.mk dst none b)) o := by
  intro f dk rd cs cx k κ l C hκ tm h' nx ds e
  obtain ⟨m, hm⟩ := h f dk rd cs cx k κ l none C hκ tm h' nx ds e
  exact ⟨m + 1, hm⟩
theorem vGuard_ok {v : V} {w : Bool} {go skip : St} {tm : T V} {s : S} (e : vGuard v w go skip tm s = .ok r) :
    (∃ t, v = .bool t ∧ (t == w) = true ∧ go tm s = .ok r) ∨ (((∃ t, v = .bool t ∧ (t == w) = false) ∨ v = .tup []) ∧ skip tm s = .ok r) := by
  cases v <;> try (cases e; done)
  · rename_i t
    have e' : boolEqF t w go skip tm s = .ok r := e
    cases t <;> cases w <;> first
      | exact .inl ⟨_, rfl, rfl, e'⟩
      | exact .inr ⟨.inl ⟨_, rfl, rfl⟩, e'⟩
  · rename_i vs
    cases vs
    · exact .inr ⟨.inr rfl, e⟩
    · cases e
theorem opG_ok {dst : Option Q} {q : Q} {w : Bool} {b : OB} {g : Xg} {o : Op} {d : Dt} (hg : XOK g (.t q)) (h : ObOK fe r b dst o) (hd : DOK d dst) : PsOK fe r (.op (.mk dst (some (q, w)) b)) (opG g w o d) := by
  intro f dk rd cs cx k κ l C hκ tm h' nx ds e
  have e' : g tm (fun v => vGuard v w (o cx κ) (fun tm s => d V.undef tm fun tm' => κ tm' s) tm ⟨h', nx, ds⟩) = .ok r := e
  rw [hg] at e'
  simp only [xK, gV_eq] at e'
  rcases vGuard_ok e' with ⟨t, hv, ht, e1⟩ | ⟨hv, e1⟩
  · obtain ⟨m, hm⟩ := h f dk rd cs cx k κ l (some (q, w)) C hκ tm h' nx ds e1
    refine ⟨m + 1, ?_⟩
    show regK fe (run fe m) f dk rd ds tm (.op (.mk dst (some (q, w)) b) :: l) k cs h' nx = .ok r
    simp only [regK, gV_eq, hv, ht]
    exact hm
  · simp only [hd _ _ _, putDq] at e1
    obtain ⟨m, hm⟩ := hκ _ _ _ _ e1
    refine ⟨m + 1, ?_⟩
    show regK fe (run fe m) f dk rd ds tm (.op (.mk dst (some (q, w)) b) :: l) k cs h' nx = .ok r
    rcases hv with ⟨t, hv, ht⟩ | hv
    · simp only [regK, gV_eq, hv, ht, putDq]; exact hm
    · simp only [regK, gV_eq, hv, putDq]; exact hm
theorem cCO_ok (o : CO) : Gd (fun g : Op => PsOK fe r (.op o) g) (cCO o) := by
  obtain ⟨dst, g, b⟩ := o
  refine (cDst_ok dst).bind fun d hd => (cOB_ok (fe := fe) (r := r) hd b).bind fun o ho => ?_
  cases g with
  | none => exact .ret (ob_ps ho)
  | some qw => exact (acT_ok qw.1).bind (f := fun g k => k (opG g qw.2 o d)) fun g hg => .ret (opG_ok hg ho hd)
theorem chk_run {p : PB} {q : Q} {l : List PS} {tm : T V} {h : T O} {nx : Q} {ds : List Df} {pg : Pg} {rg : Xg} (hp : POK pg p) (hr : XOK rg (.t q)) (hκ : StOK fe r f dk rd cs κ (.reg l k)) (e : opChk pg rg cx κ tm ⟨h, nx, ds⟩ = .ok r) :
    ∃ m, pK p tm h (fun v => gV q tm fun u => gd (eqV v u) 93 (run fe m f dk rd ds tm (.reg l k) cs h nx)) = .ok r := by
  have e' : pg tm h (fun v => rg tm fun u => gdF (eqV v u) 93 (κ tm ⟨h, nx, ds⟩)) = .ok r := e
  rw [hp] at e'
  obtain ⟨v, h1, h2⟩ := pK_split e'
  rw [hr] at h2
  simp only [xK, gV_eq, gdF_eq] at h2
  obtain ⟨h3, h4⟩ := gd_ok h2
  obtain ⟨m, hm⟩ := hκ _ _ _ _ h4
  refine ⟨m, ?_⟩
  rw [pK_nat, h1]
  simp only [bindR, gV_eq, h3, gd]
  exact hm
theorem cPS_ok (p : PS) : Gd (fun g : Op => PsOK fe r p g) (cPS p) := by
  cases p with
  | op o => exact cCO_ok o
  | chk g p q =>
    refine (cP_ok p).bind (f := fun pg k => ac10 q fun r => @Option.rec (Q × Bool) (fun _ => D) (k (opChk pg r)) (fun qw => @Prod.rec Q Bool (fun _ => D) (fun q w => ac10 q fun g => k (opChkG g w (opChk pg r))) qw) g) fun pg hp => (acT_ok q).bind (f := fun r k => @Option.rec (Q × Bool) (fun _ => D) (k (opChk pg r)) (fun qw => @Prod.rec Q Bool (fun _ => D) (fun q w => ac10 q fun g => k (opChkG g w (opChk pg r))) qw) g) fun rg hr => ?_
    cases g with
    | none =>
      refine .ret ?_
      intro f dk rd cs cx k κ l C hκ tm h nx ds e
      obtain ⟨m, hm⟩ := chk_run hp hr hκ e
      exact ⟨m + 1, hm⟩
    | some qw =>
      refine (acT_ok qw.1).bind (f := fun g k => k (opChkG g qw.2 (opChk pg rg))) fun g hg => .ret ?_
      intro f dk rd cs cx k κ l C hκ tm h nx ds e
      have e' : g tm (fun v => vGuard v qw.2 (opChk pg rg cx κ) κ tm ⟨h, nx, ds⟩) = .ok r := e
      rw [hg] at e'
      simp only [xK, gV_eq] at e'
      rcases vGuard_ok e' with ⟨t, hv, ht, e1⟩ | ⟨hv, e1⟩
      · obtain ⟨m, hm⟩ := chk_run hp hr hκ e1
        refine ⟨m + 1, ?_⟩
        show regK fe (run fe m) f dk rd ds tm (.chk (some qw) p q :: l) k cs h nx = .ok r
        simp only [regK, gV_eq, hv, ht]
        simp only [gV_eq] at hm
        exact hm
      · obtain ⟨m, hm⟩ := hκ _ _ _ _ e1
        refine ⟨m + 1, ?_⟩
        show regK fe (run fe m) f dk rd ds tm (.chk (some qw) p q :: l) k cs h nx = .ok r
        rcases hv with ⟨t, hv, ht⟩ | hv
        · simp only [regK, gV_eq, hv, ht]; exact hm
        · simp only [regK, gV_eq, hv]; exact hm
theorem cL_ok : ∀ l : List PS, Gd (fun g : Op => LOK fe r l g) (cL l)
  | [] => .ret fun f dk rd cs cx k κ C hκ tm h nx ds e => by
    obtain ⟨m, hm⟩ := hκ _ _ _ _ e
    exact ⟨m + 1, hm⟩
  | p :: l => (cPS_ok p).bind fun o ho => (cL_ok l).bind fun o' ho' => .ret fun f dk rd cs cx k κ C hκ => ho f dk rd cs cx k (o' cx κ) l C (ho' f dk rd cs cx k κ C hκ)
end Go.CM
end
noncomputable section
namespace Go.CM
variable {fe : Q → CF} {r : V} {f : Q} {dk : Bool} {rd : Option Q} {cs : List Fr} {cx : Cx} {k k' : K} {κ : St} {env : List (Nat × St)} {l : Q} {c : Fr}
theorem lookL_push (id i : Nat) (κ : St) (env : List (Nat × St)) : lookL ((i, κ) :: env) id = match Nat.beq i id with | true => some κ | false => lookL env id := by
  simp only [lookL] <;> (cases Nat.beq i id <;> rfl)
theorem CxOK.push (C : CxOK fe r f dk rd cs cx k) (hκ : StOK fe r f dk rd cs κ k) (id : Nat) : CxOK fe r f dk rd cs ⟨cx.cl, cx.f, cx.rd, (id, κ) :: cx.env, cx.kr, cx.ky⟩ (.blk id k) :=
  ⟨C.hf, C.hrd, C.cl, fun i => by
    simp only [lookL_push, exitK]
    cases hb : Nat.beq id i
    · simp only
      exact C.env i
    · exact .inl ⟨κ, k, rfl, hκ, fun _ _ => rfl⟩, C.kr, C.ky, C.dk⟩
theorem opB_eq (id : Nat) (o : Op) (cx : Cx) (κ : St) : opB id o cx κ = o ⟨cx.cl, cx.f, cx.rd, (id, κ) :: cx.env, cx.kr, cx.ky⟩ κ := by cases cx; rfl
theorem vCond_ok {v : V} {a b : St} {tm : T V} {s : S} (e : vCond v a b tm s = .ok r) : ∃ t, v = .bool t ∧ (match t with | true => a | false => b) tm s = .ok r := by
  cases v <;> try (cases e; done)
  rename_i t
  refine ⟨t, rfl, ?_⟩
  cases t <;> exact e
theorem pend_ok {pend : Jump} (C : CxOK fe r f dk rd cs cx k) (hκ : StOK fe r f dk rd cs κ k) {tm : T V} {h : T O} {nx : Q} {ds : List Df} (e : pendF pend cx κ tm ⟨h, nx, ds⟩ = .ok r) :
    ∃ m, (match pend with
      | .none => run fe m f dk rd ds tm k cs h nx
      | .ret => run fe m f dk rd ds tm (.code .ret k) cs h nx
      | .exit id => run fe m f dk rd ds tm (.code (.exit id) k) cs h nx) = .ok r := by
  cases pend with
  | none => exact hκ _ _ _ _ e
  | ret => exact retF_ok C _ _ _ _ e
  | exit id => exact exitF_ok C id _ _ _ _ e
theorem erf_ok' (C : CxOK fe r f dk rd cs cx k) (hκ : StOK fe r f dk rd cs κ k) {tm : T V} {h : T O} {nx : Q} {ds : List Df} (e : erfF cx l κ tm h nx ds = .ok r) : ∃ m, run fe m f dk rd ds tm (.erf l k) cs h nx = .ok r := by
  unfold erfF at e
  simp only [goT_eq, gO_eq, loopF_eq, gdF_eq, notF_eq, doT_eq, pO_eq] at e
  obtain ⟨st, pend, fn, tm', ps, asg, body, dfs, ho, e1⟩ := loopO_ok e
  obtain ⟨h1, e2⟩ := gd_ok e1
  obtain ⟨m, hm⟩ := pend_ok C hκ e2
  refine ⟨m + 1, ?_⟩
  have h2 : Nat.beq st 1 = false := by simpa using h1
  simp only [run_succ, stepK, gO_eq, ho, loopO, pO_eq, h2, Bool.not_false, gd]
  cases pend <;> exact hm
theorem rfO_ok {x : X} {g : Xg} {ps : List Q} {asg body : C} (hx : XOK g x) : OpOK fe r (.rf x ps asg body) (rfO g ps asg body) := by
  intro f dk rd cs cx k κ C hκ tm h nx ds e
  have e' : g tm (fun fv => vFn fv (fun g fs caps => @Option.rec Q (fun _ => Res)
      (sqT nx fun n1 => appF fs (.yld n1 :: caps) fun args => doT nx (.dfd false) h fun h1 => doT n1 (.loop (.mk 0 .none cx.f tm ps asg body nx)) h1 fun h2 => sqT n1 fun n2 =>
          cxCl cx (.fn g [] []) args false h2 n2 fun _ h nx' => erfF cx n1 κ tm h nx' (.coll nx :: ds))
      (fun l => appF fs (.yld nx :: caps) fun args => goT l h fun ob => loopF ob fun _ _ _ _ _ _ _ dfs => doT nx (.loop (.mk 0 .none cx.f tm ps asg body dfs)) h fun h2 => sqT nx fun n2 =>
          cxCl cx (.fn g [] []) args false h2 n2 fun _ h nx' => erfF cx nx κ tm h nx' ds) cx.rd)
    (fun _ => .bad 95)) = .ok r := e
  rw [hx] at e'
  obtain ⟨fv, e1, hfv⟩ := xK_split e'
  cases fv <;> try (cases e1; done)
  rename_i q fs caps
  have hcall : ∀ {args : List V} {c : Fr} {cs : List Fr} {h : T O} {nx : Q} {kret : Kr}, KrOK fe r false (c :: cs) kret → cxCl cx (.fn q [] []) args false h nx kret = .ok r → ∃ m, enterK fe (run fe m) q args false (c :: cs) h nx = .ok r := fun hk e0 => by
    rw [cxCl_eq] at e0
    obtain ⟨m, hm⟩ := C.cl.plain _ _ _ _ _ _ _ hk e0
    refine ⟨m, ?_⟩
    have hm' : appX _ [] (fun l => appX [] l fun l => enterK fe (run fe m) q l false _ _ _) = .ok r := hm
    simpa only [appX_eq, List.append_nil, List.nil_append] using hm'
  cases rd with
  | none =>
    have e2 : (sqT nx fun n1 => appF fs (.yld n1 :: caps) fun args => doT nx (.dfd false) h fun h1 => doT n1 (.loop (.mk 0 .none cx.f tm ps asg body nx)) h1 fun h2 => sqT n1 fun n2 =>
          cxCl cx (.fn q [] []) args false h2 n2 fun _ h nx' => erfF cx n1 κ tm h nx' (.coll nx :: ds)) = .ok r := by
      have : vFn (.fn q fs caps) _ _ = .ok r := e1
      rw [C.hrd] at this
      exact this
    simp only [sqT_eq, succK_eq, appF_eq, doT_eq, pO_eq, C.hf] at e2
    obtain ⟨m, hm⟩ := hcall (c := .mk f dk none (.coll nx :: ds) tm (.inrf nx.succ k)) (cs := cs) (fun v h' nx' e0 => by
      obtain ⟨m, hm⟩ := erf_ok' C hκ e0
      exact ⟨m, hm⟩) e2
    refine ⟨m + 1, ?_⟩
    simp only [run_succ, stepK, codeK, hfv, appX_eq, pO_eq, succK_eq]
    exact hm
  | some l =>
    have e2 : (appF fs (.yld nx :: caps) fun args => goT l h fun ob => loopF ob fun _ _ _ _ _ _ _ dfs => doT nx (.loop (.mk 0 .none cx.f tm ps asg body dfs)) h fun h2 => sqT nx fun n2 =>
          cxCl cx (.fn q [] []) args false h2 n2 fun _ h nx' => erfF cx nx κ tm h nx' ds) = .ok r := by
      have : vFn (.fn q fs caps) _ _ = .ok r := e1
      rw [C.hrd] at this
      exact this
    simp only [appF_eq, goT_eq, gO_eq, loopF_eq] at e2
    obtain ⟨st, pend, fn, tm', ps', asg', body', dfs, ho, e3⟩ := loopO_ok e2
    simp only [doT_eq, pO_eq, sqT_eq, succK_eq, C.hf] at e3
    obtain ⟨m, hm⟩ := hcall (c := .mk f dk (some l) ds tm (.inrf nx k)) (cs := cs) (fun v h' nx' e0 => by
      obtain ⟨m, hm⟩ := erf_ok' C hκ e0
      exact ⟨m, hm⟩) e3
    refine ⟨m + 1, ?_⟩
    simp only [run_succ, stepK, codeK, hfv, appX_eq, gO_eq, ho, loopO, pO_eq, succK_eq]
    exact hm
theorem cC_ok (cd : C) : Gd (fun o : Op => OpOK fe r cd o) (cC cd) := by
  induction cd with
  | skip =>
    exact .ret fun f dk rd cs cx k κ C hκ tm h nx ds e => by
      obtain ⟨m, hm⟩ := hκ _ _ _ _ e
      exact ⟨m + 1, hm⟩
  | reg l =>
    exact (cL_ok (fe := fe) (r := r) l).bind (f := fun o k => k o) fun o ho => .ret fun f dk rd cs cx k κ C hκ tm h nx ds e => by
      obtain ⟨m, hm⟩ := ho f dk rd cs cx k κ C hκ _ _ _ _ e
      exact ⟨m + 1, hm⟩
  | seq a b iha ihb =>
    exact iha.bind fun o ho => ihb.bind fun o' ho' => .ret fun f dk rd cs cx k κ C hκ tm h nx ds e => by
      obtain ⟨m, hm⟩ := ho f dk rd cs cx (.code b k) (o' cx κ) (C.to fun _ _ _ => rfl) (ho' f dk rd cs cx k κ C hκ) _ _ _ _ e
      exact ⟨m + 1, hm⟩
  | cond x a b iha ihb =>
    exact (cX_ok x).bind fun g hg => iha.bind fun o ho => ihb.bind fun o' ho' => .ret fun f dk rd cs cx k κ C hκ tm h nx ds e => by
      have e' : g tm (fun v => vCond v (o cx κ) (o' cx κ) tm ⟨h, nx, ds⟩) = .ok r := e
      rw [hg] at e'
      obtain ⟨v, e1, hv⟩ := xK_split e'
      obtain ⟨t, rfl, e2⟩ := vCond_ok e1
      cases t with
      | true =>
        obtain ⟨m, hm⟩ := ho f dk rd cs cx k κ C hκ _ _ _ _ e2
        refine ⟨m + 1, ?_⟩
        simp only [run_succ, stepK, codeK, hv, asB]
        exact hm
      | false =>
        obtain ⟨m, hm⟩ := ho' f dk rd cs cx k κ C hκ _ _ _ _ e2
        refine ⟨m + 1, ?_⟩
        simp only [run_succ, stepK, codeK, hv, asB]
        exact hm
  | block id a ih =>
    exact ih.bind fun o ho => .ret fun f dk rd cs cx k κ C hκ tm h nx ds e => by
      rw [opB_eq] at e
      have hκ' : StOK fe r f dk rd cs κ (.blk id k) := fun tm h nx ds e0 => by
        obtain ⟨m, hm⟩ := hκ _ _ _ _ e0
        exact ⟨m + 1, hm⟩
      obtain ⟨m, hm⟩ := ho f dk rd cs _ (.blk id k) κ (C.push hκ id) hκ' _ _ _ _ e
      exact ⟨m + 1, hm⟩
  | loop a ih =>
    exact ih.bind fun o ho => .ret fun f dk rd cs cx k κ C hκ tm h nx ds e => by
      have hl : ∀ n, StOK fe r f dk rd cs (@Nat.rec (fun _ => St) stBad (fun _ again => o cx again) n) (.lp a k) := fun n => by
        induction n with
        | zero => intro tm h nx ds e0; cases e0
        | succ n ihn =>
          intro tm h nx ds e0
          obtain ⟨m, hm⟩ := ho f dk rd cs cx (.lp a k) _ (C.to fun _ _ _ => rfl) ihn _ _ _ _ e0
          exact ⟨m + 1, hm⟩
      obtain ⟨m, hm⟩ := hl 1000000 _ _ _ _ e
      cases m with
      | zero => cases hm
      | succ m => exact ⟨m + 1, hm⟩
  | rf x ps asg body _ _ =>
    exact (cX_ok x).bind fun g hg => .ret (rfO_ok hg)
  | exit id =>
    exact .ret fun f dk rd cs cx k κ C hκ => exitF_ok C id
  | scope a ih =>
    exact ih.bind (f := fun o k => k o) fun o ho => .ret fun f dk rd cs cx k κ C hκ tm h nx ds e => by
      have hκ' : StOK fe r f dk rd cs κ (.sc k) := fun tm h nx ds e0 => by
        obtain ⟨m, hm⟩ := hκ _ _ _ _ e0
        exact ⟨m + 1, hm⟩
      obtain ⟨m, hm⟩ := ho f dk rd cs cx (.sc k) κ (C.to fun _ _ _ => rfl) hκ' _ _ _ _ e
      exact ⟨m + 1, hm⟩
  | ret =>
    exact .ret fun f dk rd cs cx k κ C hκ => retF_ok C
  | bad =>
    exact .ret fun f dk rd cs cx k κ C hκ tm h nx ds e => by cases e
theorem runD_ok (cd : C) : OpOK fe r cd (runD (mkD cd)) := by
  rcases cC_ok (fe := fe) (r := r) cd with ⟨o, ho, h⟩ | h
  · have : mkD cd = ⟨o⟩ := h D.mk
    rw [this]; exact ho
  · have : mkD cd = ⟨opBad⟩ := h D.mk
    rw [this]
    intro f dk rd cs cx k κ C hκ tm h nx ds e
    cases e
theorem resF_eq (tm : T V) (h : T O) : ∀ (rs : List RV) (k : List V → Res), resF rs tm h k = resK tm h rs k
  | [], k => rfl
  | .t q :: rs, k => by
    show gvT q tm (fun v => resF rs tm h fun l => k (v :: l)) = _
    rw [gvT_eq]
    simp only [resK, resF_eq tm h rs]
  | .cell agg n q :: rs, k => by
    show gvT q tm (fun p => vP p fun o off => @Bool.rec (fun _ => Res) (ldF h o off fun v => resF rs tm h fun l' => k (v :: l')) (ldsF h o off n fun l => resF rs tm h fun l' => k (.agg l :: l')) agg) = _
    rw [gvT_eq]
    simp only [resK, vP_eq]
    congr 1; funext p; congr 1; funext o off
    cases agg
    · simp only [ldF_eq, resF_eq tm h rs]
    · simp only [ldsF_eq, resF_eq tm h rs]
theorem oneF_eq (l : List V) (k : V → Res) : oneF l k = k (oneV l) := by
  cases l with
  | nil => rfl
  | cons v l => cases l <;> rfl
theorem resK_split {tm : T V} {h : T O} : ∀ {rs : List RV} {k : List V → Res}, resK tm h rs k = .ok r → ∃ vs, k vs = .ok r ∧ ∀ k', resK tm h rs k' = k' vs
  | [], k, e => ⟨[], e, fun _ => rfl⟩
  | .t q :: rs, k, e => by
    simp only [resK, gV_eq] at e
    obtain ⟨vs, h1, h2⟩ := resK_split e
    exact ⟨_ :: vs, h1, fun k' => by simp only [resK, gV_eq, h2]⟩
  | .cell agg n q :: rs, k, e => by
    simp only [resK, gV_eq] at e
    obtain ⟨o, off, hp, e1⟩ := asP_ok e
    cases agg with
    | true =>
      simp only at e1
      rcases tot_lds h o off n with ⟨l, hl⟩ | ⟨b, hl⟩
      · rw [hl] at e1
        obtain ⟨vs, h1, h2⟩ := resK_split e1
        exact ⟨_, h1, fun k' => by simp only [resK, gV_eq, hp, asP, hl, h2]⟩
      · rw [hl] at e1; cases e1
    | false =>
      simp only at e1
      rcases (show Tot (ldK h o off) from (tot_gO o h).bind fun ob => (tot_row ob).bind fun n t => (tot_gd (Nat.blt off n) 46).bind (Ψ := fun k => qnK off fun q => gV q t k) (.inl ⟨t.get V.undef (qn off), fun k => rfl⟩)) with ⟨l, hl⟩ | ⟨b, hl⟩
      · rw [hl] at e1
        obtain ⟨vs, h1, h2⟩ := resK_split e1
        exact ⟨_, h1, fun k' => by simp only [resK, gV_eq, hp, asP, hl, h2]⟩
      · rw [hl] at e1; cases e1
theorem rtn_ok {cl : Cl} {rs : List RV} {kret : Kr} {body : C} (hcl : ClOK fe r cl) (hf : fe f = .mk body rs) (hk : KrOK fe r dk cs kret) : StOK fe r f dk none cs (rtnF cl rs kret) .rtn := by
  intro tm h nx ds e
  have e' : dfsF ds cl rs kret tm h nx = .ok r := e
  clear e
  induction ds generalizing h nx with
  | nil =>
    have e1 : resF rs tm h (fun vs => oneF vs fun v => kret v h nx) = .ok r := e'
    rw [resF_eq] at e1
    obtain ⟨vs, h1, h2⟩ := resK_split e1
    rw [oneF_eq] at h1
    obtain ⟨m, hm⟩ := hk _ _ _ h1
    refine ⟨m + 1, ?_⟩
    simp only [run_succ, stepK, rtnK, getR_eq, hf, h2]
    exact hm
  | cons d ds ih =>
    cases d with
    | call q args =>
      have e1 : cl (.fn q [] []) args true h nx (fun _ h' nx' => dfsF ds cl rs kret tm h' nx') = .ok r := e'
      obtain ⟨m, hm⟩ := hcl.dfd q args f dk none ds tm cs h nx _ (fun v h' nx' e0 => by
        obtain ⟨m, hm⟩ := ih h' nx' e0
        exact ⟨m, hm⟩) e1
      exact ⟨m + 1, hm⟩
    | coll q =>
      have e1 : collF q (fun h' nx' => dfsF ds cl rs kret tm h' nx') h nx = .ok r := e'
      simp only [collF, gO_eq] at e1
      split at e1
      · rename_i ho
        rw [pO_eq] at e1
        obtain ⟨m, hm⟩ := ih _ _ e1
        refine ⟨m + 1, ?_⟩
        simp only [run_succ, stepK, rtnK, gO_eq, ho, pO_eq]
        exact hm
      · cases e1
    | del s m key =>
      have e1 : delF s m key (fun h' nx' => dfsF ds cl rs kret tm h' nx') h nx = .ok r := e'
      unfold delF at e1
      rcases tot_keyCk s key with hkc | ⟨n, hkc⟩
      · rw [hkc] at e1
        cases m <;> try (cases e1; done)
        rename_i o
        simp only [gO_eq] at e1
        rcases tot_map (h.ob o) with ⟨es, hes⟩ | ⟨n, hes⟩
        · rw [hes] at e1
          rcases (show Tot (delK s h key es) from by
            clear e1 hes
            induction es with
            | nil => exact .ret _
            | cons p es ihe =>
              obtain ⟨y, u⟩ := p
              simp only [show delK s h key ((y, u) :: es) = fun k => keyEq s h key y fun b => (match b with | true => k es | false => delK s h key es fun es' => k ((y, u) :: es')) from rfl]
              refine (tot_keyEq s h key y).bind fun b => ?_
              cases b
              · exact ihe.bind fun es' => .ret _
              · exact .ret es) with ⟨es', hd⟩ | ⟨n, hd⟩
          · rw [hd, pO_eq] at e1
            obtain ⟨m, hm⟩ := ih _ _ e1
            refine ⟨m + 1, ?_⟩
            simp only [run_succ, stepK, rtnK, hkc, gO_eq, hes, hd, pO_eq]
            exact hm
          · rw [hd] at e1; cases e1
        · rw [hes] at e1; cases e1
      · rw [hkc] at e1; cases e1
theorem body_ok {cl : Cl} {rs : List RV} {kret : Kr} {body : C} {tm : T V} {h : T O} {nx : Q} (hcl : ClOK fe r cl) (hf : fe f = .mk body rs) (hk : KrOK fe r dk cs kret)
    (hdk : dk = true → ∃ f2 dk2 rd2 ds2 tm2 cs', cs = .mk f2 dk2 rd2 ds2 tm2 .rtn :: cs') (e : enter1 (runD (mkD body)) cl f tm h nx (rtnF cl rs kret) = .ok r) :
    ∃ m, run fe m f dk none [] tm (.code body .nil) cs h nx = .ok r := by
  have hr := rtn_ok (f := f) (dk := dk) hcl hf hk
  have hn : StOK fe r f dk none cs (rtnF cl rs kret) .nil := fun tm h nx ds e0 => by
    obtain ⟨m, hm⟩ := hr _ _ _ _ e0
    exact ⟨m + 1, hm⟩
  exact runD_ok body f dk none cs ⟨cl, f, none, [], rtnF cl rs kret, krBad⟩ .nil _ ⟨rfl, rfl, hcl, fun id => .inr ⟨rfl, fun _ _ => rfl⟩, fun _ => hr, fun _ h0 => (by cases h0), hdk⟩ hn _ _ _ _ e
theorem argsF_ok (vs : List V) (k : T V → Res) : argsF vs 0 .nil k = argsK vs .e .nil k := by
  rw [argsF_eq', argsK_eq, show (Q.e : Q) = qn 0 from rfl, argsL_eq]
theorem cfF_ok {cl : Cl} {kret : Kr} {g : Q} {args : List V} {h : T O} {nx : Q} (hcl : ClOK fe r cl) (hk : KrOK fe r dk (c :: cs) kret)
    (hdk : dk = true → ∃ f2 dk2 rd2 ds2 tm2 cs', c :: cs = .mk f2 dk2 rd2 ds2 tm2 .rtn :: cs') (e : cfF (fe g) cl g args dk h nx kret = .ok r) : ∃ m, enterK fe (run fe m) g args dk (c :: cs) h nx = .ok r := by
  cases hc : fe g with
  | none => rw [hc] at e; cases e
  | mk body rs =>
    rw [hc] at e
    have e1 : argsF args 0 .nil (fun tm => enter1 (runD (mkD body)) cl g tm h nx (rtnF cl rs kret)) = .ok r := e
    rw [argsF_ok, argsK_eq] at e1
    obtain ⟨m, hm⟩ := body_ok hcl hc hk hdk e1
    refine ⟨m, ?_⟩
    simp only [enterK, getR_eq, hc, argsK_eq]
    exact hm
  | ext n =>
    rw [hc] at e
    cases dk with
    | true => cases e
    | false =>
      have e1 : extK n args (fun v => kret v h nx) = .ok r := e
      have tot_i : ∀ v, Tot (asU8 v) := fun v => by
        cases v <;> first | exact .bad _ | skip
        rename_i kd n
        cases kd <;> first | exact .bad _ | skip
        cases n <;> first | exact .bad _ | exact (tot_gd _ _).bind (.ret _)
      have hfb : ∀ cc l s i, Tot (findB cc l s i) := fun cc l => by
        induction l with
        | zero => intro s i; exact .ret _
        | succ l ih =>
          intro s i
          simp only [show findB cc (l + 1) s i = fun k => (match Nat.beq (s % 256) cc with | true => k (.ofNat i) | false => forceN (s / 256) fun s' => forceN (i + 1) fun i' => findB cc l s' i' k) from rfl]
          cases Nat.beq (s % 256) cc
          · exact (tot_forceN _).bind fun s' => (tot_forceN _).bind fun i' => ih s' i'
          · exact .ret _
      have hcb : ∀ cc l s n, Tot (cntB cc l s n) := fun cc l => by
        induction l with
        | zero => intro s n; exact .ret _
        | succ l ih =>
          intro s n
          simp only [show cntB cc (l + 1) s n = fun k => (match Nat.beq (s % 256) cc with | true => forceN (s / 256) fun s' => forceN (n + 1) fun n' => cntB cc l s' n' k | false => forceN (s / 256) fun s' => cntB cc l s' n k) from rfl]
          cases Nat.beq (s % 256) cc
          · exact (tot_forceN _).bind fun s' => ih s' n
          · exact (tot_forceN _).bind fun s' => (tot_forceN _).bind fun n' => ih s' n'
      have ht : Tot (extK n args) := by
        unfold extK
        split
        · split
          · exact (tot_s _).bind fun l s => (tot_i _).bind fun c => (hfb _ _ _ _).bind fun i => .ret _
          · exact .bad _
        · split
          · exact (tot_s _).bind fun l s => (tot_i _).bind fun c => (hcb _ _ _ _).bind fun i => .ret _
          · exact .bad _
        · split
          · exact .ret _
          · exact .bad _
      rcases ht with ⟨v, hv⟩ | ⟨b, hv⟩
      · rw [hv] at e1
        obtain ⟨m, hm⟩ := hk _ _ _ e1
        refine ⟨m, ?_⟩
        simp only [enterK, getR_eq, hc, hv]
        exact hm
      · rw [hv] at e1; cases e1
theorem parF_eq : ∀ (ps : List Q) (vs : List V) (t : T V) (k : T V → Res), parF ps vs t k = parK ps vs t k
  | [], [], t, k => rfl
  | [], _ :: _, t, k => rfl
  | _ :: _, [], t, k => rfl
  | p :: ps, v :: vs, t, k => by
    show dvT p v t (fun t' => parF ps vs t' k) = _
    simp only [dvT_eq, parF_eq ps vs, parK]
theorem tot_par : ∀ (ps : List Q) (vs : List V) (t : T V), Tot (parK ps vs t)
  | [], [], t => .ret t
  | [], _ :: _, t => .bad _
  | _ :: _, [], t => .bad _
  | p :: ps, v :: vs, t => (show Tot (pV v p t) from .inl ⟨_, fun k => pV_eq v p t k⟩).bind fun t' => tot_par ps vs t'
theorem round_ok {cl : Cl} {kret : Kr} {args : List V} {h : T O} {nx : Q} (hcl : ClOK fe r cl) (hk : KrOK fe r false (c :: cs) kret) (e : roundF cl l args h nx kret = .ok r) : ∃ m, callK fe (run fe m) (.yld l) args (c :: cs) h nx = .ok r := by
  unfold roundF at e
  simp only [goT_eq, gO_eq, loopF_eq] at e
  obtain ⟨st, pend, fn, tm, ps, asg, body, dfs, ho, e1⟩ := loopO_ok e
  rw [parF_eq] at e1
  rcases tot_par ps args tm with ⟨tm', ht⟩ | ⟨b, ht⟩
  · rw [ht] at e1
    have hcx : ∀ k, (∀ id kf kn, exitK id k kf kn = kn) → CxOK fe r fn false (some l) (c :: cs) ⟨cl, fn, some l, [], stBad, kret⟩ k := fun k hke =>
      ⟨rfl, rfl, hcl, fun id => .inr ⟨rfl, fun kf kn => hke id kf kn⟩, fun h0 => (by cases h0), fun l' h0 => (by cases h0; exact ⟨c, cs, rfl, hk⟩), fun h0 => (by cases h0)⟩
    have hend : StOK fe r fn false (some l) (c :: cs) (fun _ s => endF l .none 0 true kret s) .nil := fun tm h nx ds e0 => by
      obtain ⟨m, hm⟩ := endF_ok (st := 0) (b := true) (ds := ds) rfl hk e0
      exact ⟨m + 1, hm⟩
    have hbody : StOK fe r fn false (some l) (c :: cs) (bodyF cl l fn body kret) (.begin (.code body .nil)) := fun tm h nx ds e0 => by
      have e2 : goT l h (fun ob => loopF ob fun st pend fn' tm' params asg body' dfs => gdF (Nat.beq st 0) 104 (doT l (.loop (.mk 1 pend fn' tm' params asg body' dfs)) h fun h' =>
        runD (mkD body) ⟨cl, fn, some l, [], stBad, kret⟩ (fun _ s => endF l .none 0 true kret s) tm ⟨h', nx, ds⟩)) = .ok r := e0
      simp only [goT_eq, gO_eq, loopF_eq, gdF_eq, doT_eq, pO_eq] at e2
      obtain ⟨st, pend, fn', tm', ps', asg', body', dfs, ho, e3⟩ := loopO_ok e2
      obtain ⟨h1, e4⟩ := gd_ok e3
      obtain ⟨m, hm⟩ := runD_ok body fn false (some l) (c :: cs) _ .nil _ (hcx .nil fun _ _ _ => rfl) hend _ _ _ _ e4
      refine ⟨m + 1, ?_⟩
      simp only [run_succ, stepK, gO_eq, ho, loopO, h1, gd, pO_eq]
      exact hm
    obtain ⟨m, hm⟩ := runD_ok asg fn false (some l) (c :: cs) _ (.begin (.code body .nil)) _ (hcx _ fun _ _ _ => rfl) hbody _ _ _ _ e1
    refine ⟨m, ?_⟩
    simp only [callK, gO_eq, ho, loopO, ht]
    exact hm
  · rw [ht] at e1; cases e1
theorem clF_ok {cl : Cl} (hcl : ClOK fe r cl) : ClOK fe r (clF' fe cl) := by
  constructor
  · intro fv args c cs h nx kret hk e
    cases fv <;> try (cases e; done)
    · rename_i q fs caps
      have e1 : app3 fs args caps (fun l => cfF (fe q) cl q l false h nx kret) = .ok r := e
      rw [app3_eq] at e1
      obtain ⟨m, hm⟩ := cfF_ok hcl hk (fun h0 => by cases h0) e1
      refine ⟨m, ?_⟩
      simp only [callK, appX_eq]
      exact hm
    · exact round_ok hcl hk e
  · intro g args f2 dk2 rd2 ds2 tm2 cs h nx kret hk e
    have e1 : app3 [] args [] (fun l => cfF (fe g) cl g l true h nx kret) = .ok r := e
    rw [app3_eq] at e1
    simp only [List.nil_append, List.append_nil] at e1
    exact cfF_ok hcl hk (fun _ => ⟨f2, dk2, rd2, ds2, tm2, cs, rfl⟩) e1
theorem callF_ok : ∀ n, ClOK fe r (callF fe n)
  | 0 => ⟨fun _ _ _ _ _ _ _ _ e => (by cases e), fun _ _ _ _ _ _ _ _ _ _ _ _ e => (by cases e)⟩
  | n + 1 => clF_ok (callF_ok n)
theorem runF_ok {n : Nat} {g : Q} {nx : Q} {body : C} {rs : List RV} (hg : fe g = .mk body rs) (e : runF fe (n + 1) g nx = .ok r) : ∃ m, run fe m g false none [] .nil (.code body .nil) [] .nil nx = .ok r := by
  have e1 : app3 [] [] [] (fun l => cfF (fe g) (callF fe n) g l false .nil nx fun v _ _ => .ok v) = .ok r := e
  rw [app3_eq, hg] at e1
  have e2 : argsF [] 0 .nil (fun tm => enter1 (runD (mkD body)) (callF fe n) g tm .nil nx (rtnF (callF fe n) rs fun v _ _ => .ok v)) = .ok r := e1
  exact body_ok (callF_ok n) hg (fun v h nx e0 => ⟨0, e0⟩) (fun h0 => by cases h0) e2
end Go.CM
end
noncomputable section
namespace Go.CM
set_option maxRecDepth 1000000
set_option maxHeartbeats 0
noncomputable def fe26 : Q → CF := mkT Go.Proofs.Tryz.prog
theorem follows26 : Go.Proofs.Tryz.prog.follows .mixedOrders = true := by kernel_rfl
theorem globals26 : Go.Proofs.Tryz.prog.globals.size = 8 := by kernel_rfl
noncomputable def body26 : C := match compF Go.Proofs.Tryz.prog 6 with | .mk b _ => b | _ => .bad
theorem mk26 : (match compF Go.Proofs.Tryz.prog 6 with | .mk _ _ => true | _ => false) = true := by kernel_rfl
end Go.CM
end
