/- Part V03 of the proof of one law of the program. -/
import Derived.Test.YtkmnkiekmlcfdaaGreatDoorV02
set_option linter.all false
namespace Go.Proofs.YtkmnkiekmlcfdaaGreatDoor
open Go.AM
set_option maxRecDepth 100000
set_option maxHeartbeats 1000000
variable {kd:List UInt8→Int}
def headsD (H:List (List UInt8)):List Row→List (List UInt8)
 |[]=>H
 |r::rs=>headsD (bif r.1.kind==3 then addS H r.1.name else H) rs
theorem loop97a {O:List AObj} {lo:Nat} (hlo:lo≤O.length) (b0 b1 b2 b3:AObj) (a4 a5 a6 a7 a10:Slot) (ys:List Row):∀ (pre:List Row) (H:List (List UInt8)),(pre++ys).length < big →
  ∃ (s0 s1 s2 s3 s8 s9 s13 s14 s16 s17 s18 s20 s22 s23 s24 s25 s27 s28 s29 s32 s38 s47 s48 s49 s50 s57 s69 s70 s71 s72 s73 s82 s92 s93 s94 s95 s108 s109 s110 s111 s112 s122 s125 s126 s127 s128 s134 s152:Slot),LP kd 97 (loopOf Tryz.f97 0) ⟨(.dead::.dead::.dead::.dead::a4::a5::a6::a7::.dead::.dead::a10::.val (.amap (O.length+4))::.dead::.dead::.dead::.dead::.dead::.dead::.dead::.dead::.dead::.dead::.dead::.dead::.dead::.dead::.dead::.val (.slice ((pre++ys).map Row.enc))::.val (.int .i64 ((pre++ys).length:Nat))::.val (.int .i64 (pre.length:Nat))::.dead::.dead::.dead::.dead::.dead::.dead::.dead::.dead::.dead::.dead::.dead::.dead::.dead::.dead::.dead::.dead::.dead::.dead::.dead::.dead::.dead::.dead::.dead::.dead::[]),⟨O++[b0,b1,b2,b3,.map (seenE H)],lo⟩⟩ =
   some (.exit 0,⟨(s0::s1::s2::s3::a4::a5::a6::a7::s8::s9::a10::.val (.amap (O.length+4))::s13::s14::s16::s17::s18::s20::s22::s23::s24::s25::s27::s28::s29::s32::s38::s47::s48::s49::s50::s57::s69::s70::s71::s72::s73::s82::s92::s93::s94::s95::s108::s109::s110::s111::s112::s122::s125::s126::s127::s128::s134::s152::[]),⟨O++[b0,b1,b2,b3,.map (seenE (headsD H ys))],lo⟩⟩):=by
 have hb:Nat.ble lo (O.length+4)=true:=Nat.ble_eq_true_of_le (by omega);induction ys with
 |nil =>
  intro pre H h3;have hlt:=geI pre;simp only[headsD,List.append_nil];iterate 48 apply Exists.intro
  refine tJ rfl ?_;repeat first|with_reducible constructor|(with_reducible apply tG);kernel_rfl;intro _ _;(repeat apply tOp;intro _;simp only[go_sem];rfl);rfl;simp only[go_sem];rfl
  (with_reducible apply tF);simp only[go_sem];rfl;exact hlt;refine tQ ?_;repeat with_reducible constructor
  exact tlX;all_goals exact .dead
 |cons y ys ih =>
  intro pre H h3;have hget:=getI Row.enc pre ys y;rw[Row.enc_eq] at hget;have hlt:=ltI pre ys y;have h0:=zI pre.length;have hw:=wL pre ys y h3;have hu:=upd_seen y.1.name H;simp only[headsD];cases hc:(y.1.kind==3) with
  |true =>
   simp only[cond_true];obtain ⟨s0,s1,s2,s3,s8,s9,s13,s14,s16,s17,s18,s20,s22,s23,s24,s25,s27,s28,s29,s32,s38,s47,s48,s49,s50,s57,s69,s70,s71,s72,s73,s82,s92,s93,s94,s95,s108,s109,s110,s111,s112,s122,s125,s126,s127,s128,s134,s152,ih⟩:=ih (pre++[y]) (addS H y.1.name) (by simpa using h3);simp only[List.append_assoc,List.singleton_append] at ih;refine ⟨s0,s1,s2,s3,s8,s9,s13,s14,s16,s17,s18,s20,s22,s23,s24,s25,s27,s28,s29,s32,s38,s47,s48,s49,s50,s57,s69,s70,s71,s72,s73,s82,s92,s93,s94,s95,s108,s109,s110,s111,s112,s122,s125,s126,s127,s128,s134,s152,?_⟩;refine tJ rfl ?_;repeat first|with_reducible constructor|(with_reducible apply tG);kernel_rfl;intro _ _;(repeat apply tOp;intro _;simp only[go_sem];rfl);rfl;simp only[go_sem];rfl
   (with_reducible apply tT);simp only[go_sem];rfl;exact hlt;refine tQ ?_;repeat first|with_reducible constructor|(with_reducible apply tG);kernel_rfl;intro _ _;(repeat apply tOp;intro _;simp only[hget,h0,d00,n0,go_sem,Nat.reduceAdd,reduceIte];rfl);rfl;simp only[go_sem];rfl
   (with_reducible apply tT);simp only[go_sem];rfl;exact hc;refine tQ ?_;repeat first|with_reducible constructor|(with_reducible apply tG);kernel_rfl;intro _ _;(repeat apply tOp;intro _;simp only[FL,FO,Nat.reduceAdd,d00,n0,asMap,keyT,clean,flat,hb,hu,hw,go_sem,Nat.reduceAdd,reduceIte];rfl);rfl;simp only[go_sem];rfl
   rw[show (pre++[y]).length=pre.length+1 from by simp] at ih;exact ih
  |false =>
   simp only[cond_false];obtain ⟨s0,s1,s2,s3,s8,s9,s13,s14,s16,s17,s18,s20,s22,s23,s24,s25,s27,s28,s29,s32,s38,s47,s48,s49,s50,s57,s69,s70,s71,s72,s73,s82,s92,s93,s94,s95,s108,s109,s110,s111,s112,s122,s125,s126,s127,s128,s134,s152,ih⟩:=ih (pre++[y]) H (by simpa using h3);simp only[List.append_assoc,List.singleton_append] at ih;refine ⟨s0,s1,s2,s3,s8,s9,s13,s14,s16,s17,s18,s20,s22,s23,s24,s25,s27,s28,s29,s32,s38,s47,s48,s49,s50,s57,s69,s70,s71,s72,s73,s82,s92,s93,s94,s95,s108,s109,s110,s111,s112,s122,s125,s126,s127,s128,s134,s152,?_⟩;refine tJ rfl ?_;repeat first|with_reducible constructor|(with_reducible apply tG);kernel_rfl;intro _ _;(repeat apply tOp;intro _;simp only[go_sem];rfl);rfl;simp only[go_sem];rfl
   (with_reducible apply tT);simp only[go_sem];rfl;exact hlt;refine tQ ?_;repeat first|with_reducible constructor|(with_reducible apply tG);kernel_rfl;intro _ _;(repeat apply tOp;intro _;simp only[hget,h0,d00,n0,go_sem,Nat.reduceAdd,reduceIte];rfl);rfl;simp only[go_sem];rfl
   (with_reducible apply tF);simp only[go_sem];rfl;exact hc;refine tQ ?_;repeat first|with_reducible constructor|(with_reducible apply tG);kernel_rfl;intro _ _;(repeat apply tOp;intro _;simp only[hw,go_sem];rfl);rfl;simp only[go_sem];rfl
   exact ih
theorem loop97b {S:Sto} {iq:Nat} {q:Row} (hq:S.objs[iq]?=some (.box [.val (Row.enc q)])) (caps:List AVal) (R:CoD→Option (List PaD)) (ys:List CoD):∀ (pre:List CoD),(pre++ys).length < big →
  (∀ c,ys.find? (fun c=>c.name==q.1.name)=some c→CF kd (.fn 151) (.val c.enc::caps.map .val) S=some (.ret (resS (R c)),S)) →
  ∃ (s0 s1 s2 s3 s4 s5 s6 s7 s8 s9 s10 s11 s13 s14 s16 s17 s18 s20 s22 s23 s24 s25 s27 s28 s29 s32 s38 s47 s48 s49 s50 s57 s69 s70 s71 s72 s73 s82 s92 s93 s94 s95 s108 s109 s110 s111 s112 s122 s125 s126 s127 s128 s134 s152:Slot),LP kd 97 (loopOf Tryz.f97 1) ⟨(.dead::.dead::.dead::.dead::.dead::.dead::.val (.loc iq 0)::.dead::.dead::.dead::.dead::.dead::.dead::.val (.func 151 caps)::.dead::.dead::.dead::.dead::.dead::.dead::.dead::.dead::.dead::.dead::.dead::.dead::.dead::.dead::.dead::.dead::.dead::.dead::.dead::.val (.slice ((pre++ys).map CoD.enc))::.val (.int .i64 ((pre++ys).length:Nat))::.val (.int .i64 (pre.length:Nat))::.dead::.dead::.dead::.dead::.dead::.dead::.dead::.dead::.dead::.dead::.dead::.dead::.dead::.dead::.dead::.dead::.dead::.dead::[]),S⟩ =
   match ys.find? (fun c=>c.name==q.1.name) with
   |none=>some (.exit 2,⟨(s0::s1::s2::s3::s4::s5::s6::s7::s8::s9::s10::s11::s13::s14::s16::s17::s18::s20::s22::s23::s24::s25::s27::s28::s29::s32::s38::s47::s48::s49::s50::s57::s69::s70::s71::s72::s73::s82::s92::s93::s94::s95::s108::s109::s110::s111::s112::s122::s125::s126::s127::s128::s134::s152::[]),S⟩)
   |some c=>some (.ret,⟨(s0::s1::s2::s3::s4::s5::s6::s7::.val (.slice (((R c).getD []).map PaD.enc))::.val (.bool (R c).isSome)::s10::s11::s13::s14::s16::s17::s18::s20::s22::s23::s24::s25::s27::s28::s29::s32::s38::s47::s48::s49::s50::s57::s69::s70::s71::s72::s73::s82::s92::s93::s94::s95::s108::s109::s110::s111::s112::s122::s125::s126::s127::s128::s134::s152::[]),S⟩):=by
 rw[Row.enc_eq] at hq;have ann151:(ans 151).ownArg=[]:=by rw[an151]
 induction ys with
 |nil =>
  intro pre h3 h2;have hlt:=geI pre;simp only[List.find?_nil,List.append_nil];iterate 54 apply Exists.intro
  refine tJ rfl ?_;repeat first|with_reducible constructor|(with_reducible apply tG);kernel_rfl;intro _ _;(repeat apply tOp;intro _;simp only[go_sem];rfl);rfl;simp only[go_sem];rfl|(with_reducible apply t0);rfl;trivial
  exact tlX;all_goals exact .dead
 |cons y ys ih =>
  intro pre h3 h2;have hget:=getI CoD.enc pre ys y;rw[y.enc_eq] at hget;have hlt:=ltI pre ys y;have h0:=zI pre.length;have hw:=wL pre ys y h3;rw[List.find?_cons] at h2 ⊢;cases hc:(y.name==q.1.name) with
  |true =>
   rw[hc] at h2;have hcall:=h2 y rfl;rw[y.enc_eq] at hcall;simp only[resS] at hcall;simp only;iterate 54 apply Exists.intro
   refine tJ rfl ?_;repeat first|with_reducible constructor|(with_reducible apply tG);kernel_rfl;intro _ _;(repeat apply tOp;intro _;simp only[hget,h0,hq,d00,n0,Nat.add_zero,hcall,ann151,go_sem,Nat.reduceAdd,reduceIte];rfl);rfl;simp only[go_sem];rfl|(with_reducible apply t1);rfl;trivial
   exact tlE;all_goals exact .dead
  |false =>
   rw[hc] at h2;obtain ⟨s0,s1,s2,s3,s4,s5,s6,s7,s8,s9,s10,s11,s13,s14,s16,s17,s18,s20,s22,s23,s24,s25,s27,s28,s29,s32,s38,s47,s48,s49,s50,s57,s69,s70,s71,s72,s73,s82,s92,s93,s94,s95,s108,s109,s110,s111,s112,s122,s125,s126,s127,s128,s134,s152,ih⟩:=ih (pre++[y]) (by simpa using h3) h2;simp only[List.append_assoc,List.singleton_append] at ih;refine ⟨s0,s1,s2,s3,s4,s5,s6,s7,s8,s9,s10,s11,s13,s14,s16,s17,s18,s20,s22,s23,s24,s25,s27,s28,s29,s32,s38,s47,s48,s49,s50,s57,s69,s70,s71,s72,s73,s82,s92,s93,s94,s95,s108,s109,s110,s111,s112,s122,s125,s126,s127,s128,s134,s152,?_⟩;cases hz:ys.find? (fun c=>c.name==q.1.name) with
   |none =>
    rw[hz] at ih;simp only at ih ⊢;refine tJ rfl ?_;repeat first|with_reducible constructor|(with_reducible apply tG);kernel_rfl;intro _ _;(repeat apply tOp;intro _;simp only[hget,h0,hq,d00,n0,Nat.add_zero,hw,go_sem,Nat.reduceAdd,reduceIte];rfl);rfl;simp only[go_sem];rfl|(with_reducible apply t1);rfl;trivial|(with_reducible apply t0);rfl;trivial
    exact ih
   |some c =>
    rw[hz] at ih;simp only at ih ⊢;refine tJ rfl ?_;repeat first|with_reducible constructor|(with_reducible apply tG);kernel_rfl;intro _ _;(repeat apply tOp;intro _;simp only[hget,h0,hq,d00,n0,Nat.add_zero,hw,go_sem,Nat.reduceAdd,reduceIte];rfl);rfl;simp only[go_sem];rfl|(with_reducible apply t1);rfl;trivial|(with_reducible apply t0);rfl;trivial
    exact ih
def missD (H:List (List UInt8)) (b:Bool):List CoD→Bool
 |[]=>b
 |c::cs=>missD H (b||!H.contains c.name) cs
theorem loop97c {S:Sto} {im:Nat} {H:List (List UInt8)} (hm:S.objs[im]?=some (.map (seenE H))) (a4 a5 a6 a7 a10 a14 a17:Slot) (ys:List CoD):∀ (pre:List CoD) (b:Bool),(pre++ys).length < big →
  ∃ (s0 s1 s2 s3 s8 s9 s13 s16 s20 s22 s23 s24 s25 s27 s28 s29 s32 s38 s47 s48 s49 s50 s57 s69 s70 s71 s72 s73 s82 s92 s93 s94 s95 s108 s109 s110 s111 s112 s122 s125 s126 s127 s128 s134 s152:Slot),LP kd 97 (loopOf Tryz.f97 2) ⟨(.dead::.dead::.dead::.dead::a4::a5::a6::a7::.dead::.dead::a10::.val (.amap im)::.dead::a14::.dead::a17::.val (.bool b)::.dead::.dead::.dead::.dead::.dead::.dead::.dead::.dead::.dead::.dead::.dead::.dead::.dead::.dead::.dead::.dead::.dead::.dead::.dead::.dead::.dead::.val (.slice ((pre++ys).map CoD.enc))::.val (.int .i64 ((pre++ys).length:Nat))::.val (.int .i64 (pre.length:Nat))::.dead::.dead::.dead::.dead::.dead::.dead::.dead::.dead::.dead::.dead::.dead::.dead::.dead::[]),S⟩ =
   some (.exit 4,⟨(s0::s1::s2::s3::a4::a5::a6::a7::s8::s9::a10::.val (.amap im)::s13::a14::s16::a17::.val (.bool (missD H b ys))::s20::s22::s23::s24::s25::s27::s28::s29::s32::s38::s47::s48::s49::s50::s57::s69::s70::s71::s72::s73::s82::s92::s93::s94::s95::s108::s109::s110::s111::s112::s122::s125::s126::s127::s128::s134::s152::[]),S⟩):=by
 induction ys with
 |nil =>
  intro pre b h3;have hlt:=geI pre;simp only[missD,List.append_nil];iterate 45 apply Exists.intro
  refine tJ rfl ?_;repeat first|with_reducible constructor|(with_reducible apply tG);kernel_rfl;intro _ _;(repeat apply tOp;intro _;simp only[go_sem];rfl);rfl;simp only[go_sem];rfl|(with_reducible apply t0);rfl;trivial
  exact tlX;all_goals exact .dead
 |cons y ys ih =>
  intro pre b h3;have hget:=getI CoD.enc pre ys y;rw[y.enc_eq] at hget;have hlt:=ltI pre ys y;have h0:=zI pre.length;have hw:=wL pre ys y h3;have hf:=find_seen y.name H;simp only[missD];cases b with
  |true =>
   obtain ⟨s0,s1,s2,s3,s8,s9,s13,s16,s20,s22,s23,s24,s25,s27,s28,s29,s32,s38,s47,s48,s49,s50,s57,s69,s70,s71,s72,s73,s82,s92,s93,s94,s95,s108,s109,s110,s111,s112,s122,s125,s126,s127,s128,s134,s152,ih⟩:=ih (pre++[y]) true (by simpa using h3);simp only[List.append_assoc,List.singleton_append] at ih;simp only[Bool.true_or];refine ⟨s0,s1,s2,s3,s8,s9,s13,s16,s20,s22,s23,s24,s25,s27,s28,s29,s32,s38,s47,s48,s49,s50,s57,s69,s70,s71,s72,s73,s82,s92,s93,s94,s95,s108,s109,s110,s111,s112,s122,s125,s126,s127,s128,s134,s152,?_⟩;refine tJ rfl ?_;repeat first|with_reducible constructor|(with_reducible apply tG);kernel_rfl;intro _ _;(repeat apply tOp;intro _;simp only[hget,h0,hw,go_sem];rfl);rfl;simp only[go_sem];rfl|(with_reducible apply t1);rfl;trivial
   exact ih
  |false =>
   cases hc:H.contains y.name with
   |true =>
    rw[hc] at hf;simp only[cond_true] at hf;obtain ⟨s0,s1,s2,s3,s8,s9,s13,s16,s20,s22,s23,s24,s25,s27,s28,s29,s32,s38,s47,s48,s49,s50,s57,s69,s70,s71,s72,s73,s82,s92,s93,s94,s95,s108,s109,s110,s111,s112,s122,s125,s126,s127,s128,s134,s152,ih⟩:=ih (pre++[y]) false (by simpa using h3);simp only[List.append_assoc,List.singleton_append] at ih;simp only[Bool.not_true,Bool.or_self];refine ⟨s0,s1,s2,s3,s8,s9,s13,s16,s20,s22,s23,s24,s25,s27,s28,s29,s32,s38,s47,s48,s49,s50,s57,s69,s70,s71,s72,s73,s82,s92,s93,s94,s95,s108,s109,s110,s111,s112,s122,s125,s126,s127,s128,s134,s152,?_⟩;refine tJ rfl ?_;repeat first|with_reducible constructor|(with_reducible apply tG);kernel_rfl;intro _ _;(repeat apply tOp;intro _;simp only[hget,h0,hw,asMap,keyT,hm,hf,go_sem];rfl);rfl;simp only[go_sem];rfl|(with_reducible apply t1);rfl;trivial
    exact ih
   |false =>
    rw[hc] at hf;simp only[cond_false] at hf;obtain ⟨s0,s1,s2,s3,s8,s9,s13,s16,s20,s22,s23,s24,s25,s27,s28,s29,s32,s38,s47,s48,s49,s50,s57,s69,s70,s71,s72,s73,s82,s92,s93,s94,s95,s108,s109,s110,s111,s112,s122,s125,s126,s127,s128,s134,s152,ih⟩:=ih (pre++[y]) true (by simpa using h3);simp only[List.append_assoc,List.singleton_append] at ih;simp only[Bool.not_false,Bool.or_true];refine ⟨s0,s1,s2,s3,s8,s9,s13,s16,s20,s22,s23,s24,s25,s27,s28,s29,s32,s38,s47,s48,s49,s50,s57,s69,s70,s71,s72,s73,s82,s92,s93,s94,s95,s108,s109,s110,s111,s112,s122,s125,s126,s127,s128,s134,s152,?_⟩;refine tJ rfl ?_;repeat first|with_reducible constructor|(with_reducible apply tG);kernel_rfl;intro _ _;(repeat apply tOp;intro _;simp only[hget,h0,hw,asMap,keyT,hm,hf,Option.getD_none,go_sem];rfl);rfl;simp only[go_sem];rfl|(with_reducible apply t1);rfl;trivial
    exact ih
theorem loop97d {S:Sto} (caps:List AVal) (R:CoD→Option (List PaD)) (ys:List CoD):∀ (pre:List CoD),(pre++ys).length < big →
  (∀ c∈ys,CF kd (.fn 151) (.val c.enc::caps.map .val) S=some (.ret (resS (R c)),S)) →
  ∃ (s0 s1 s2 s3 s4 s5 s6 s7 s8 s9 s10 s11 s13 s14 s16 s17 s18 s20 s22 s23 s24 s25 s27 s28 s29 s32 s38 s47 s48 s49 s50 s57 s69 s70 s71 s72 s73 s82 s92 s93 s94 s95 s108 s109 s110 s111 s112 s122 s125 s126 s127 s128 s134 s152:Slot),LP kd 97 (loopOf Tryz.f97 3) ⟨(.dead::.dead::.dead::.dead::.dead::.dead::.dead::.dead::.dead::.dead::.dead::.dead::.dead::.val (.func 151 caps)::.dead::.dead::.dead::.dead::.dead::.dead::.dead::.dead::.dead::.dead::.dead::.dead::.dead::.dead::.dead::.dead::.dead::.dead::.dead::.dead::.dead::.dead::.dead::.dead::.dead::.dead::.dead::.dead::.dead::.val (.slice ((pre++ys).map CoD.enc))::.val (.int .i64 ((pre++ys).length:Nat))::.val (.int .i64 (pre.length:Nat))::.dead::.dead::.dead::.dead::.dead::.dead::.dead::.dead::[]),S⟩ =
   match ys.findSome? R with
   |none=>some (.exit 6,⟨(s0::s1::s2::s3::s4::s5::s6::s7::s8::s9::s10::s11::s13::s14::s16::s17::s18::s20::s22::s23::s24::s25::s27::s28::s29::s32::s38::s47::s48::s49::s50::s57::s69::s70::s71::s72::s73::s82::s92::s93::s94::s95::s108::s109::s110::s111::s112::s122::s125::s126::s127::s128::s134::s152::[]),S⟩)
   |some l=>some (.ret,⟨(s0::s1::s2::s3::s4::s5::s6::s7::.val (.slice (l.map PaD.enc))::.val (.bool true)::s10::s11::s13::s14::s16::s17::s18::s20::s22::s23::s24::s25::s27::s28::s29::s32::s38::s47::s48::s49::s50::s57::s69::s70::s71::s72::s73::s82::s92::s93::s94::s95::s108::s109::s110::s111::s112::s122::s125::s126::s127::s128::s134::s152::[]),S⟩):=by
 have ann151:(ans 151).ownArg=[]:=by rw[an151]
 induction ys with
 |nil =>
  intro pre h3 h2;have hlt:=geI pre;simp only[List.findSome?_nil,List.append_nil];iterate 54 apply Exists.intro
  refine tJ rfl ?_;repeat first|with_reducible constructor|(with_reducible apply tG);kernel_rfl;intro _ _;(repeat apply tOp;intro _;simp only[go_sem];rfl);rfl;simp only[go_sem];rfl|(with_reducible apply t0);rfl;trivial
  exact tlX;all_goals exact .dead
 |cons y ys ih =>
  intro pre h3 h2;have hget:=getI CoD.enc pre ys y;have hcall:=h2 y (by simp);rw[y.enc_eq] at hget hcall;simp only[resS] at hcall;have hlt:=ltI pre ys y;have h0:=zI pre.length;have hw:=wL pre ys y h3;rw[List.findSome?_cons];cases hR:R y with
  |some l =>
   rw[hR] at hcall;simp only[Option.getD_some,Option.isSome_some] at hcall ⊢;iterate 54 apply Exists.intro
   refine tJ rfl ?_;repeat first|with_reducible constructor|(with_reducible apply tG);kernel_rfl;intro _ _;(repeat apply tOp;intro _;simp only[hget,h0,hcall,ann151,go_sem];rfl);rfl;simp only[go_sem];rfl|(with_reducible apply t1);rfl;trivial|(with_reducible apply t0);rfl;trivial
   exact tlE;all_goals exact .dead
  |none =>
   rw[hR] at hcall;simp only[Option.getD_none,Option.isSome_none,List.map_nil] at hcall ⊢;obtain ⟨s0,s1,s2,s3,s4,s5,s6,s7,s8,s9,s10,s11,s13,s14,s16,s17,s18,s20,s22,s23,s24,s25,s27,s28,s29,s32,s38,s47,s48,s49,s50,s57,s69,s70,s71,s72,s73,s82,s92,s93,s94,s95,s108,s109,s110,s111,s112,s122,s125,s126,s127,s128,s134,s152,ih⟩:=ih (pre++[y]) (by simpa using h3) (fun c hc=>h2 c (by simp [hc]));simp only[List.append_assoc,List.singleton_append] at ih;refine ⟨s0,s1,s2,s3,s4,s5,s6,s7,s8,s9,s10,s11,s13,s14,s16,s17,s18,s20,s22,s23,s24,s25,s27,s28,s29,s32,s38,s47,s48,s49,s50,s57,s69,s70,s71,s72,s73,s82,s92,s93,s94,s95,s108,s109,s110,s111,s112,s122,s125,s126,s127,s128,s134,s152,?_⟩;cases hz:ys.findSome? R with
   |none =>
    rw[hz] at ih;simp only at ih ⊢;refine tJ rfl ?_;repeat first|with_reducible constructor|(with_reducible apply tG);kernel_rfl;intro _ _;(repeat apply tOp;intro _;simp only[hget,h0,hcall,ann151,hw,go_sem];rfl);rfl;simp only[go_sem];rfl|(with_reducible apply t1);rfl;trivial
    exact ih
   |some c =>
    rw[hz] at ih;simp only at ih ⊢;refine tJ rfl ?_;repeat first|with_reducible constructor|(with_reducible apply tG);kernel_rfl;intro _ _;(repeat apply tOp;intro _;simp only[hget,h0,hcall,ann151,hw,go_sem];rfl);rfl;simp only[go_sem];rfl|(with_reducible apply t1);rfl;trivial
    exact ih
def restD:List Row→List (List PaD)
 |[]=>[]
 |r::rs=>bif r.1.open then r.2::restD rs else restD rs
theorem loop97e {S:Sto} (a4 a5 a6 a10 a11 a17:Slot) (ys:List Row):∀ (pre:List Row) (X:List AVal),(pre++ys).length < big→X.length+ys.length+1 < big →
  ∃ (s0 s1 s2 s3 s7 s8 s9 s13 s14 s16 s18 s20 s22 s23 s24 s27 s28 s29 s32 s38 s47 s48 s49 s50 s57 s69 s70 s71 s72 s73 s82 s92 s93 s94 s95 s108 s109 s110 s111 s112 s122 s125 s126 s127 s128 s134 s152:Slot),LP kd 97 (loopOf Tryz.f97 4) ⟨(.dead::.dead::.dead::.dead::a4::a5::a6::.dead::.dead::.dead::a10::a11::.dead::.dead::.dead::a17::.dead::.dead::.dead::.dead::.dead::.own 1 X::.dead::.dead::.dead::.dead::.dead::.dead::.dead::.dead::.dead::.dead::.dead::.dead::.dead::.dead::.dead::.dead::.dead::.dead::.dead::.dead::.dead::.dead::.dead::.dead::.dead::.dead::.val (.slice ((pre++ys).map Row.enc))::.val (.int .i64 ((pre++ys).length:Nat))::.val (.int .i64 (pre.length:Nat))::.dead::.dead::.dead::[]),S⟩ =
   some (.exit 8,⟨(s0::s1::s2::s3::a4::a5::a6::s7::s8::s9::a10::a11::s13::s14::s16::a17::s18::s20::s22::s23::s24::.own 1 (X++(restD ys).map rowE)::s27::s28::s29::s32::s38::s47::s48::s49::s50::s57::s69::s70::s71::s72::s73::s82::s92::s93::s94::s95::s108::s109::s110::s111::s112::s122::s125::s126::s127::s128::s134::s152::[]),S⟩):=by
 induction ys with
 |nil =>
  intro pre X h3 h4;have hlt:=geI pre;simp only[restD,List.map_nil,List.append_nil];iterate 47 apply Exists.intro
  refine tJ rfl ?_;repeat first|with_reducible constructor|(with_reducible apply tG);kernel_rfl;intro _ _;(repeat apply tOp;intro _;simp only[go_sem];rfl);rfl;simp only[go_sem];rfl
  (with_reducible apply tF);simp only[go_sem];rfl;exact hlt;refine tQ ?_;repeat with_reducible constructor
  exact tlX;all_goals exact .dead
 |cons y ys ih =>
  intro pre X h3 h4;have hget:=getI Row.enc pre ys y;rw[Row.enc_eq] at hget;have hlt:=ltI pre ys y;have h0:=zI pre.length;have hw:=wL pre ys y h3;have hr:=roomI X (by simp at h4;omega);have h102:=c102 (kd:=kd) y.1 S;rw[y.1.enc_eq] at h102;simp only[restD];cases hc:y.1.open with
  |true =>
   rw[hc] at h102;simp only[cond_true,List.map_cons];obtain ⟨s0,s1,s2,s3,s7,s8,s9,s13,s14,s16,s18,s20,s22,s23,s24,s27,s28,s29,s32,s38,s47,s48,s49,s50,s57,s69,s70,s71,s72,s73,s82,s92,s93,s94,s95,s108,s109,s110,s111,s112,s122,s125,s126,s127,s128,s134,s152,ih⟩:=ih (pre++[y]) (X++[rowE y.2]) (by simpa using h3) (by simp at h4 ⊢;omega);simp only[List.append_assoc,List.singleton_append] at ih;simp only[rowE] at ih ⊢;refine ⟨s0,s1,s2,s3,s7,s8,s9,s13,s14,s16,s18,s20,s22,s23,s24,s27,s28,s29,s32,s38,s47,s48,s49,s50,s57,s69,s70,s71,s72,s73,s82,s92,s93,s94,s95,s108,s109,s110,s111,s112,s122,s125,s126,s127,s128,s134,s152,?_⟩;refine tJ rfl ?_;repeat first|with_reducible constructor|(with_reducible apply tG);kernel_rfl;intro _ _;(repeat apply tOp;intro _;simp only[go_sem];rfl);rfl;simp only[go_sem];rfl
   (with_reducible apply tT);simp only[go_sem];rfl;exact hlt;refine tQ ?_;repeat first|with_reducible constructor|(with_reducible apply tG);kernel_rfl;intro _ _;(repeat apply tOp;intro _;simp only[hget,h0,d00,n0,h102,go_sem,Nat.reduceAdd,reduceIte];rfl);rfl;simp only[go_sem];rfl
   (with_reducible apply tT);simp only[go_sem];rfl;rfl;refine tQ ?_;repeat first|with_reducible constructor|(with_reducible apply tG);kernel_rfl;intro _ _;(repeat apply tOp;intro _;simp only[hw,hr,Bool.false_eq_true,d01,n1,leS,le1S,Int.toNat_natCast,takeP,head3,setElems,clean,flat,List.replicate,List.set_cons_zero,List.length_map,go_sem,Nat.reduceAdd,reduceIte];rfl);rfl;simp only[go_sem];rfl
   exact ih
  |false =>
   rw[hc] at h102;simp only[cond_false];obtain ⟨s0,s1,s2,s3,s7,s8,s9,s13,s14,s16,s18,s20,s22,s23,s24,s27,s28,s29,s32,s38,s47,s48,s49,s50,s57,s69,s70,s71,s72,s73,s82,s92,s93,s94,s95,s108,s109,s110,s111,s112,s122,s125,s126,s127,s128,s134,s152,ih⟩:=ih (pre++[y]) X (by simpa using h3) (by simp at h4;omega);simp only[List.append_assoc,List.singleton_append] at ih;refine ⟨s0,s1,s2,s3,s7,s8,s9,s13,s14,s16,s18,s20,s22,s23,s24,s27,s28,s29,s32,s38,s47,s48,s49,s50,s57,s69,s70,s71,s72,s73,s82,s92,s93,s94,s95,s108,s109,s110,s111,s112,s122,s125,s126,s127,s128,s134,s152,?_⟩;refine tJ rfl ?_;repeat first|with_reducible constructor|(with_reducible apply tG);kernel_rfl;intro _ _;(repeat apply tOp;intro _;simp only[go_sem];rfl);rfl;simp only[go_sem];rfl
   (with_reducible apply tT);simp only[go_sem];rfl;exact hlt;refine tQ ?_;repeat first|with_reducible constructor|(with_reducible apply tG);kernel_rfl;intro _ _;(repeat apply tOp;intro _;simp only[hget,h0,d00,n0,h102,go_sem,Nat.reduceAdd,reduceIte];rfl);rfl;simp only[go_sem];rfl
   (with_reducible apply tF);simp only[go_sem];rfl;rfl;refine tQ ?_;repeat first|with_reducible constructor|(with_reducible apply tG);kernel_rfl;intro _ _;(repeat apply tOp;intro _;simp only[hw,go_sem];rfl);rfl;simp only[go_sem];rfl
   exact ih
end Go.Proofs.YtkmnkiekmlcfdaaGreatDoor
