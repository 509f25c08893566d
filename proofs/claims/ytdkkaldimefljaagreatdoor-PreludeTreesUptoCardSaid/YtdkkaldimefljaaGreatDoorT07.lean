import Derived.Test.YtdkkaldimefljaaGreatDoorT06
set_option linter.all false
section
namespace Go.Proofs.YtdkkaldimefljaaGreatDoor
open Go.AM
variable [Aps]
set_option maxRecDepth 100000
set_option maxHeartbeats 16000000
theorem TyD.enc_mk (n:List UInt8) (al:List TyD):(TyD.mk n al).enc=.agg [.str n,.slice (al.map TyD.enc)]:=by simp [TyD.enc,TyD.encs_eq]
def tyName:TyD→List UInt8|.mk n _=>n
def vO:TyD→List TyD|.mk _ l=>l
theorem gQ (t:TyD):t.enc=.agg [.str (tyName t),.slice ((vO t).map TyD.enc)]:=by cases t;exact TyD.enc_mk _ _
def qP:List TyD→TyD→TyD
 |[],r=>r
 |a::l,r=>.mk [45,62] [a,qP l r]
def mN (t:TyD):List Cell:=[.val (.str (tyName t)),.val (.slice ((vO t).map TyD.enc))]
theorem aGl (r:TyD) (hr:(tyName r==[45,62])=false) (sto:Sto) (ys:List TyD):∀ (pre:List TyD),pre.length+ys.length+1 < big →
  ∃ s0 s1 s2 s6,LP 42 (dQ Tryz.f42 0) ⟨[.dead,.box (mN (qP ys r)),.dead,.own 2 (pre.map TyD.enc),.dead],sto⟩=some (.exit 0,⟨[s0,s1,s2,.own 2 ((pre++ys).map TyD.enc),s6],sto⟩):=by
 induction ys with
 |nil =>
  intro pre h3;simp only[List.append_nil,qP,mN];(iterate 4 apply Exists.intro);refine tI rfl ?_;refine tQ ?_;repeat first|with_reducible constructor|with_reducible refine tW rfl ?_|((with_reducible apply tG);(·kernel_rfl);(·(intro _ _;(repeat (apply tOp;(·(intro _;simp only[hr,go_sem];rfl))));rfl));(·(simp only[go_sem];rfl)))
  (with_reducible apply tF);simp only[go_sem];rfl;rfl;refine tQ ?_;repeat first|with_reducible constructor|with_reducible refine tW rfl ?_
  exact tlX;all_goals exact .dead
 |cons y ys ih =>
  intro pre h3;have hrm:Nat.ble (pre.length+1) room=true:=by apply Nat.ble_eq_true_of_le;simp only[room];simp only[List.length_cons,big] at h3;omega
  have emap:(pre++[y]).map TyD.enc=pre.map TyD.enc++[y.enc]:=by simp
  obtain ⟨s0,s1,s2,s6,ih⟩:=ih (pre++[y]) (by simp only[List.length_append,List.length_cons,List.length_nil] at h3 ⊢;omega);rw[emap,gQ y] at ih;simp only[List.append_assoc,List.singleton_append] at ih
  have hcell:mN (qP (y::ys) r)=[.val (.str [45,62]),.val (.slice [.agg [.str (tyName y),.slice ((vO y).map TyD.enc)],.agg [.str (tyName (qP ys r)),.slice ((vO (qP ys r)).map TyD.enc)]])]:=by
   rw[←gQ y,←gQ (qP ys r)];simp only[mN,qP,tyName,vO,List.map_cons,List.map_nil]
  rw[hcell];simp only[mN] at ih;refine ⟨s0,s1,s2,s6,?_⟩;refine tI rfl ?_;refine tQ ?_;repeat first|with_reducible constructor|with_reducible refine tW rfl ?_|((with_reducible apply tG);(·kernel_rfl);(·(intro _ _;(repeat (apply tOp;(·(intro _;simp only[go_sem];rfl))));rfl));(·(simp only[go_sem];rfl)))
  (with_reducible apply tT);simp only[go_sem];rfl;rfl;refine tQ ?_;repeat first|with_reducible constructor|with_reducible refine tW rfl ?_|((with_reducible apply tG);(·kernel_rfl);(·(intro _ _;(repeat (apply tOp;(·(intro _;simp only[hrm,List.length_map,bI,clean,flat,List.replicate,List.set_cons_zero,List.set_cons_succ,go_sem];rfl))));rfl));(·(simp only[go_sem];rfl)))
  exact ih
theorem c42 (l:List TyD) (r:TyD) (hr:(tyName r==[45,62])=false) (hl:l.length+1 < big) (sto:Sto):CF (.fn 42) [.val (qP l r).enc] sto=some (.ret (.val (.slice (l.map TyD.enc))),sto):=by
 obtain ⟨s0,s1,s2,s6,hlp⟩:=aGl r hr sto l [] (by simp only[List.length_nil];omega);simp only[List.nil_append,List.map_nil,mN] at hlp;rw[gQ (qP l r)];apply tA;rfl;rfl;exact Tryz.func42;rfl;rfl;simp only[go_sem];rfl;refine tQ ?_;repeat first|with_reducible constructor|with_reducible refine tW rfl ?_|((with_reducible apply tG);(·kernel_rfl);(·(intro _ _;(repeat (apply tOp;(·(intro _;simp only[go_sem];rfl))));rfl));(·(simp only[go_sem];rfl)))
 apply tL;exact hlp;refine tQ ?_;repeat first|with_reducible constructor|with_reducible refine tW rfl ?_|((with_reducible apply tG);(·kernel_rfl);(·(intro _ _;(repeat (apply tOp;(·(intro _;simp only[go_sem];rfl))));rfl));(·(simp only[go_sem];rfl)))
 exact dC rfl
theorem aHO (sto:Sto) (ys:List TyD):∀ (zs:List VaD) (pre:List TyD) (qre:List VaD),pre.length=qre.length→ys.length=zs.length→(pre++ys).length < big →
  (∀ (i:Nat) (t:TyD) (v:VaD),ys[i]?=some t→zs[i]?=some v→CF (.fn 113) [.val t.enc,.val v.enc] sto=some (.ret (.val (.bool true)),sto)) →
  ∃ s0 s1 s4 s5 s6 s7 s8 s9 s10 s20,LP 45 (dQ Tryz.f45 0) ⟨[.dead,.val (.slice ((qre++zs).map VaD.enc)),.dead,.dead,.dead,.val (.slice ((pre++ys).map TyD.enc)),.val (.int .i64 ((pre++ys).length:Nat)),.val (.int .i64 (pre.length:Nat)),.dead,.dead],sto⟩=some (.exit 0,⟨[s0,s1,s4,s5,s6,s7,s8,s9,s10,s20],sto⟩):=by
 induction ys with
 |nil =>
  intro zs pre qre hpq hyz h3 h2;have hlt:=geI pre;simp only[List.append_nil];(iterate 10 apply Exists.intro);refine tI rfl ?_;refine tQ ?_;repeat first|with_reducible constructor|with_reducible refine tW rfl ?_|((with_reducible apply tG);(·kernel_rfl);(·(intro _ _;(repeat (apply tOp;(·(intro _;simp only[go_sem];rfl))));rfl));(·(simp only[go_sem];rfl)))
  (with_reducible apply tF);simp only[go_sem];rfl;exact hlt;refine tQ ?_;repeat first|with_reducible constructor|with_reducible refine tW rfl ?_
  exact tlX;all_goals exact .dead
 |cons y ys ih =>
  intro zs pre qre hpq hyz h3 h2;cases zs with
  |nil=>simp at hyz
  |cons z zs =>
  have hget:=oH TyD.enc pre ys y;have hget2:=oH VaD.enc qre zs z;rw[←hpq] at hget2;have hlt:=ltI pre ys y;have h0:=zI pre.length;have hw:=wL pre ys y h3;have hc:=h2 0 y z rfl rfl;obtain ⟨s0,s1,s4,s5,s6,s7,s8,s9,s10,s20,ih⟩:=ih zs (pre++[y]) (qre++[z]) (by simp [hpq]) (by simpa using hyz) (by simpa using h3) (fun i t v h4 h5=>h2 (i+1) t v (by simpa using h4) (by simpa using h5));simp only[List.append_assoc,List.singleton_append] at ih;rw[gQ y] at hget hc;rw[z.enc_eq] at hget2 hc;refine ⟨s0,s1,s4,s5,s6,s7,s8,s9,s10,s20,?_⟩;refine tI rfl ?_;refine tQ ?_;repeat first|with_reducible constructor|with_reducible refine tW rfl ?_|((with_reducible apply tG);(·kernel_rfl);(·(intro _ _;(repeat (apply tOp;(·(intro _;simp only[go_sem];rfl))));rfl));(·(simp only[go_sem];rfl)))
  (with_reducible apply tT);simp only[go_sem];rfl;exact hlt;refine tQ ?_;repeat first|with_reducible constructor|with_reducible refine tW rfl ?_|((with_reducible apply tG);(·kernel_rfl);(·(intro _ _;(repeat (apply tOp;(·(intro _;simp only[hget,hget2,h0,hc,beq_self_eq_true,cH,go_sem];rfl))));rfl));(·(simp only[go_sem];rfl)))
  (with_reducible apply tF);simp only[go_sem];rfl;rfl;refine tQ ?_;repeat first|with_reducible constructor|with_reducible refine tW rfl ?_|((with_reducible apply tG);(·kernel_rfl);(·(intro _ _;(repeat (apply tOp;(·(intro _;simp only[hw,go_sem];rfl))));rfl));(·(simp only[go_sem];rfl)))
  exact ih
theorem c45 (ts:List TyD) (vs:List VaD) (hl:ts.length=vs.length) (hb:ts.length < big) (sto:Sto) (h:∀ (i:Nat) (t:TyD) (v:VaD),ts[i]?=some t→vs[i]?=some v→CF (.fn 113) [.val t.enc,.val v.enc] sto=some (.ret (.val (.bool true)),sto)) :
  CF (.fn 45) [.val (.slice (ts.map TyD.enc)),.val (.slice (vs.map VaD.enc))] sto=some (.ret (.val (.bool true)),sto):=by
 obtain ⟨s0,s1,s4,s5,s6,s7,s8,s9,s10,s20,hlp⟩:=aHO sto ts vs [] [] rfl hl (by simpa using hb) h;simp only[List.nil_append,List.length_nil] at hlp;apply tA;rfl;rfl;exact Tryz.func45;rfl;rfl;simp only[go_sem];rfl;refine tQ ?_;repeat first|with_reducible constructor|with_reducible refine tW rfl ?_|((with_reducible apply tG);(·kernel_rfl);(·(intro _ _;(repeat (apply tOp;(·(intro _;simp only[List.length_map,go_sem];rfl))));rfl));(·(simp only[go_sem];rfl)))
 apply tL;exact hlp;refine tQ ?_;repeat first|with_reducible constructor|with_reducible refine tW rfl ?_|((with_reducible apply tG);(·kernel_rfl);(·(intro _ _;(repeat (apply tOp;(·(intro _;simp only[go_sem];rfl))));rfl));(·(simp only[go_sem];rfl)))
 exact dC rfl
theorem aMe (ts:List TyD) (v:VaD) (n:Nat) (hl:ts.length=v.args.length) (sto:Sto) (ho:sto.objs[n]?=some (.box (aS v))) (h45:CF (.fn 45) [.val (.slice (ts.map TyD.enc)),.val (.slice (v.args.map VaD.enc))] sto=some (.ret (.val (.bool true)),sto)) :
  CF (.fn 159) [.val (.slice (ts.map TyD.enc)),.val (.loc n 0)] sto=some (.ret (.val (.bool true)),sto):=by
 have he:(((ts.length:Nat):Int)==((v.args.length:Nat):Int))=true:=by simp [hl]
 simp only[aS] at ho;apply tA;rfl;rfl;exact Tryz.func159;rfl;rfl;simp only[go_sem];rfl;refine tQ ?_;repeat first|with_reducible constructor|with_reducible refine tW rfl ?_|((with_reducible apply tG);(·kernel_rfl);(·(intro _ _;(repeat (apply tOp;(·(intro _;simp only[ho,he,h45,List.length_map,go_sem];rfl))));rfl));(·(simp only[go_sem];rfl)))
 exact dC rfl
end Go.Proofs.YtdkkaldimefljaaGreatDoor
end
