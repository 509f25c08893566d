/- Part E01 of the proof of one law of the program. -/
import Derived.Test.YtkmnkiekmlcfdaaGreatDoorB02
import Derived.Test.YtkmnkiekmlcfdaaGreatDoorB00
set_option linter.all false
namespace Go.Proofs.YtkmnkiekmlcfdaaGreatDoor
open Go.AM
attribute [go_sem] opsK oneK guardK stepK callK argsA capsA elemsA mvK mv asV asSl AM.asInt AM.asBool asPlace asBox asObj asMap cellsOfPlace writePlace asCells boxCells optInt sliceCut drawnPlace opS RS.look RS.put RS.putO alook tlook commit persist constS constT absV absC dstOk noRefTo guardB abin abinT isNilSlice isNilIface nilTest Nat.beq Nat.ble Nat.blt cond_true cond_false Bool.and_true Bool.true_and Bool.and_self Bool.not_true Bool.not_false Bool.or_true Bool.or_false Bool.false_or Bool.true_or Bool.and_false Bool.false_and List.all_nil List.all_cons List.contains List.elem Option.bind_some Option.map_some Option.getD_some cAgg cInt cBool cStr cSlice cFunc cNilf cNilp cNilm cLoc cMap cYld List.take_succ_cons List.take_zero List.drop_zero List.drop_succ_cons Nat.zero_add Cell.get Cell.lok AM.lok lokF noRefS partOf List.map_nil List.map_cons List.length_cons List.length_nil List.getElem?_cons_zero List.getElem?_cons_succ List.nil_append List.cons_append List.append_nil List.getElem?_toArray List.toList_toArray Option.bind_none Option.map_none objs1 objs2 objs3 objs32 oset1 setCells List.take_append_drop List.drop_nil List.take_nil sz3 ag3 zo3 by3 Tryz.underlying3 sz4 ag4 zo4 zc4 Tryz.underlying4 sz9 ag9 zo9 by9 Tryz.underlying9 Tryz.underlying0 an56 an64 an121 an133 an162 an167 sz26 ag26 se26 Tryz.underlying26 sz30 ag30 zo30 zc30 by30 Tryz.underlying30 pl30 Tryz.underlying98 sz72 ag72 se72 zc72 Tryz.underlying72 sz119 ag119 zc119 Tryz.underlying119 sz23 ag23 se23 Tryz.underlying23 sz25 ag25 zo25 zc25 by25 Tryz.underlying25 pl25 Tryz.underlying121 an83 an135 fd30_2 an115 an123 an125 an127 an128 an129 an132 an155 an164 an165 an166 fd25_0 fd25_1 an84 an136 fd30_0 an120 sz145 ag145 zc145 Tryz.underlying145 an113 an160 an171 an172 sz22 ag22 Tryz.underlying22 sz58 ag58 se58 Tryz.underlying58 sz61 ag61 zo61 zc61 by61 Tryz.underlying61 pl61 sz116 ag116 zc116 Tryz.underlying116 pl116 Tryz.underlying180 fd116_0 Tryz.underlying179 Tryz.underlying189 an82 an134 Tryz.underlying153 fd116_1 an76 an122 an124 an126 fd116_2 fd61_0 fd61_1 Tryz.underlying156 an30 an116 sz31 ag31 zc31 Tryz.underlying31 Tryz.underlying168 an73 an114 an101 fd30_1 an105 sz36 ag36 se36 Tryz.underlying36 sz70 ag70 zo70 zc70 by70 Tryz.underlying70 pl70 sz147 ag147 Tryz.underlying147 sz148 ag148 zc148 Tryz.underlying148 an55 an59 an104 Tryz.underlying100 fd70_0 Tryz.underlying99 an39 an13 Tryz.underlying32 Tryz.underlying37 sz45 ag45 se45 Tryz.underlying45 sz47 ag47 zo47 zc47 by47 Tryz.underlying47 pl47 Tryz.underlying48 Tryz.underlying49 sz52 Tryz.underlying52 Tryz.underlying76 sz78 ag78 zc78 Tryz.underlying78 Tryz.underlying79 Tryz.underlying81 Tryz.underlying132 fd52_1 fd47_1 an68 fd47_0 fd47_2 an72 an78 an130 Tryz.underlying5 an77 an79 an156 an86 an87 an88 an118 an157 an161 an119 an75 an107 an81 an131 an80 an61 an108 an60 an29 an31 an38 an40 an34 an37 an71 sz66 ag66 se66 Tryz.underlying66 an33 an36 an137 an35 an7 sz28 Tryz.underlying28 Tryz.underlying67 fd70_1 fd28_0 fd28_1 fd28_2 an32 an85
section
open Go.AM
set_option maxRecDepth 100000
variable {kd:List UInt8→Int}
theorem loop64 (g:FuncId) (hg:(ans g).ownArg=[]) (caps:List AVal) (p:AVal→Bool) (sto:Sto) (ys:List AVal):∀ (pre:List AVal),(pre++ys).length < 9223372036854775807 →
  (∀ x∈ys,∃ a b c,x=.agg [a,b,c])→(∀ x∈ys,CF kd (.fn g) (.val x::caps.map .val) sto=some (.ret (.val (.bool (p x))),sto)) →
  ∃ s4 s5 s9 s16,LP kd 64 (loopOf Tryz.f64 0) ⟨[.val (.slice (pre++ys)),.val (.func g caps),.dead,.dead,.val (.int .i64 ((pre++ys).length:Nat)),.val (.int .i64 (pre.length:Nat)),.dead,.dead],sto⟩=(match ys.findIdx? p with
   |some i=>some (.ret,⟨[.val (.slice (pre++ys)),.val (.func g caps),.val (.int .i64 ((pre.length+i:Nat):Int)),s5,.val (.int .i64 ((pre++ys).length:Nat)),s4,s9,s16],sto⟩)
   |none=>some (.exit 0,⟨[.val (.slice (pre++ys)),.val (.func g caps),s4,s5,.val (.int .i64 ((pre++ys).length:Nat)),.val (.int .i64 ((pre++ys).length:Nat)),s9,s16],sto⟩)):=by
 induction ys with
 |nil =>
  intro pre h3 h1 h2;simp only[List.append_nil,List.findIdx?_nil];iterate 4 apply Exists.intro
  refine tJ rfl ?_;repeat first|with_reducible constructor|(with_reducible apply tG);kernel_rfl;intro _ _;(repeat apply tOp;intro _;simp only[go_sem];rfl);rfl;simp only[go_sem];rfl
  (with_reducible apply tF);simp only[go_sem];rfl;simp;refine tQ ?_;repeat with_reducible constructor
  exact tlX
 |cons y ys ih =>
  intro pre h3 h1 h2;obtain ⟨a,b,c,rfl⟩:=h1 y (by simp);have hget:(pre++.agg [a,b,c]::ys)[((pre.length:Nat):Int).toNat]?=some (.agg [a,b,c]):=by simp
  have hlt:decide ((pre.length:Int) < ((pre++.agg [a,b,c]::ys).length:Nat))=true:=by simp;omega
  have h0:decide (0≤((pre.length:Nat):Int))=true:=by simp
  have hcall:=h2 (.agg [a,b,c]) (by simp);rw[List.findIdx?_cons];cases hp:p (.agg [a,b,c]) with
  |true =>
   iterate 4 apply Exists.intro
   refine tJ rfl ?_;repeat first|with_reducible constructor|(with_reducible apply tG);kernel_rfl;intro _ _;(repeat apply tOp;intro _;simp only[hg,hget,h0,hcall,go_sem];rfl);rfl;simp only[go_sem];rfl|(with_reducible apply t1);rfl;trivial
   exact tlE
  |false =>
   have hw:IntKind.i64.wrap ((pre.length:Int)+1)=((pre++[AVal.agg [a,b,c]]).length:Nat):=by
    rw[wrapOk (by omega) (by simp at h3;omega)];simp
   obtain ⟨s4,s5,s9,s16,ih⟩:=ih (pre++[.agg [a,b,c]]) (by simpa using h3) (fun x hx=>h1 x (by simp [hx])) (fun x hx=>h2 x (by simp [hx]));simp only[List.append_assoc,List.singleton_append] at ih;refine ⟨s4,s5,s9,s16,?_⟩;cases hf:List.findIdx? p ys with
   |none =>
    rw[hf] at ih;simp only[Bool.false_eq_true,if_false,Option.map_none];refine tJ rfl ?_;repeat first|with_reducible constructor|(with_reducible apply tG);kernel_rfl;intro _ _;(repeat apply tOp;intro _;simp only[hg,hget,h0,hcall,hw,go_sem];rfl);rfl;simp only[go_sem];rfl|(with_reducible apply t1);rfl;trivial|(with_reducible apply t0);rfl;trivial
    exact ih
   |some i =>
    rw[hf] at ih;simp only[Bool.false_eq_true,if_false,Option.map_some];refine tJ rfl ?_;repeat first|with_reducible constructor|(with_reducible apply tG);kernel_rfl;intro _ _;(repeat apply tOp;intro _;simp only[hg,hget,h0,hcall,hw,go_sem];rfl);rfl;simp only[go_sem];rfl|(with_reducible apply t1);rfl;trivial|(with_reducible apply t0);rfl;trivial
    have:pre.length+(i+1)=(pre++[AVal.agg [a,b,c]]).length+i:=by simp;omega
    rw[this];exact ih
theorem c64 (g:FuncId) (hg:(ans g).ownArg=[]) (caps:List AVal) (p:AVal→Bool) (sto:Sto) (xs:List AVal) (h3:xs.length < 9223372036854775807) (h1:∀ x∈xs,∃ a b c,x=.agg [a,b,c]) (h2:∀ x∈xs,CF kd (.fn g) (.val x::caps.map .val) sto=some (.ret (.val (.bool (p x))),sto)) :
  CF kd (.fn 64) [.val (.slice xs),.val (.func g caps)] sto=some (.ret (.val (.int .i64 (match xs.findIdx? p with|some i=>(i:Int)|none=>-1))),sto):=by
 obtain ⟨s4,s5,s9,s16,h⟩:=loop64 (kd:=kd) g hg caps p sto xs [] (by simpa using h3) h1 h2;cases hf:xs.findIdx? p with
 |none =>
  rw[hf] at h;apply tA;rfl;rfl;exact Tryz.func64;rfl;rfl;simp only[go_sem];rfl;refine tQ ?_;repeat first|with_reducible constructor|(with_reducible apply tG);kernel_rfl;intro _ _;(repeat apply tOp;intro _;simp only[go_sem];rfl);rfl;simp only[go_sem];rfl|(with_reducible apply tM);assumption
  exact fin0 rfl
 |some i =>
  rw[hf] at h;simp only[List.length_nil,Nat.zero_add] at h;apply tA;rfl;rfl;exact Tryz.func64;rfl;rfl;simp only[go_sem];rfl;refine tQ ?_;repeat first|with_reducible constructor|(with_reducible apply tG);kernel_rfl;intro _ _;(repeat apply tOp;intro _;simp only[go_sem];rfl);rfl;simp only[go_sem];rfl|(with_reducible apply tM);assumption
  exact fin0 rfl
theorem c56 (g:FuncId) (hg:(ans g).ownArg=[]) (caps:List AVal) (p:AVal→Bool) (sto:Sto) (xs:List AVal) (h3:xs.length < 9223372036854775807) (h1:∀ x∈xs,∃ a b c,x=.agg [a,b,c]) (h2:∀ x∈xs,CF kd (.fn g) (.val x::caps.map .val) sto=some (.ret (.val (.bool (p x))),sto)) :
  CF kd (.fn 56) [.val (.slice xs),.val (.func g caps)] sto=some (.ret (.val (.bool (xs.any p))),sto):=by
 have h:=c64 (kd:=kd) g hg caps p sto xs h3 h1 h2
 have hr:decide ((match xs.findIdx? p with|some i=>(i:Int)|none=>-1)≥0)=xs.any p:=by
  cases hf:xs.findIdx? p with
  |none =>
   rw[List.findIdx?_eq_none_iff] at hf
   have:xs.any p=false:=by rw[List.any_eq_false];intro x hx;simp [hf x hx]
   rw[this];rfl
  |some i =>
   have:xs.any p=true:=by
    have:=List.of_findIdx?_eq_some hf
    rw[List.any_eq_true];cases hx:xs[i]? with
    |none=>rw[hx] at this;simp at this
    |some x=>rw[hx] at this;exact ⟨x,List.mem_of_getElem? hx,this⟩
   rw[this];simp
 rw[←hr];apply tA;rfl;rfl;exact Tryz.func56;rfl;rfl;simp only[go_sem];rfl;refine tQ ?_;repeat first|with_reducible constructor|(with_reducible apply tG);kernel_rfl;intro _ _;(repeat apply tOp;intro _;simp only[h,go_sem];rfl);rfl;simp only[go_sem];rfl
 exact fin0 rfl
theorem loop167 (g:FuncId) (hg:(ans g).ownArg=[]) (caps:List AVal) (p:AVal→Bool) (sto:Sto) (ys:List AVal):∀ (pre:List AVal),(pre++ys).length < 9223372036854775807 →
  (∀ x∈ys,∃ a b,x=.agg [a,b])→(∀ x∈ys,CF kd (.fn g) (.val x::caps.map .val) sto=some (.ret (.val (.bool (p x))),sto)) →
  ∃ s4 s5 s9 s16,LP kd 167 (loopOf Tryz.f167 0) ⟨[.val (.slice (pre++ys)),.val (.func g caps),.dead,.dead,.val (.int .i64 ((pre++ys).length:Nat)),.val (.int .i64 (pre.length:Nat)),.dead,.dead],sto⟩=(match ys.findIdx? p with
   |some i=>some (.ret,⟨[.val (.slice (pre++ys)),.val (.func g caps),.val (.int .i64 ((pre.length+i:Nat):Int)),s5,.val (.int .i64 ((pre++ys).length:Nat)),s4,s9,s16],sto⟩)
   |none=>some (.exit 0,⟨[.val (.slice (pre++ys)),.val (.func g caps),s4,s5,.val (.int .i64 ((pre++ys).length:Nat)),.val (.int .i64 ((pre++ys).length:Nat)),s9,s16],sto⟩)):=by
 induction ys with
 |nil =>
  intro pre h3 h1 h2;simp only[List.append_nil,List.findIdx?_nil];iterate 4 apply Exists.intro
  refine tJ rfl ?_;repeat first|with_reducible constructor|(with_reducible apply tG);kernel_rfl;intro _ _;(repeat apply tOp;intro _;simp only[go_sem];rfl);rfl;simp only[go_sem];rfl
  (with_reducible apply tF);simp only[go_sem];rfl;simp;refine tQ ?_;repeat with_reducible constructor
  exact tlX
 |cons y ys ih =>
  intro pre h3 h1 h2;obtain ⟨a,b,rfl⟩:=h1 y (by simp);have hget:(pre++.agg [a,b]::ys)[((pre.length:Nat):Int).toNat]?=some (.agg [a,b]):=by simp
  have hlt:decide ((pre.length:Int) < ((pre++.agg [a,b]::ys).length:Nat))=true:=by simp;omega
  have h0:decide (0≤((pre.length:Nat):Int))=true:=by simp
  have hcall:=h2 (.agg [a,b]) (by simp);rw[List.findIdx?_cons];cases hp:p (.agg [a,b]) with
  |true =>
   iterate 4 apply Exists.intro
   refine tJ rfl ?_;repeat first|with_reducible constructor|(with_reducible apply tG);kernel_rfl;intro _ _;(repeat apply tOp;intro _;simp only[hg,hget,h0,hcall,go_sem];rfl);rfl;simp only[go_sem];rfl|(with_reducible apply t1);rfl;trivial
   exact tlE
  |false =>
   have hw:IntKind.i64.wrap ((pre.length:Int)+1)=((pre++[AVal.agg [a,b]]).length:Nat):=by
    rw[wrapOk (by omega) (by simp at h3;omega)];simp
   obtain ⟨s4,s5,s9,s16,ih⟩:=ih (pre++[.agg [a,b]]) (by simpa using h3) (fun x hx=>h1 x (by simp [hx])) (fun x hx=>h2 x (by simp [hx]));simp only[List.append_assoc,List.singleton_append] at ih;refine ⟨s4,s5,s9,s16,?_⟩;cases hf:List.findIdx? p ys with
   |none =>
    rw[hf] at ih;simp only[Bool.false_eq_true,if_false,Option.map_none];refine tJ rfl ?_;repeat first|with_reducible constructor|(with_reducible apply tG);kernel_rfl;intro _ _;(repeat apply tOp;intro _;simp only[hg,hget,h0,hcall,hw,go_sem];rfl);rfl;simp only[go_sem];rfl|(with_reducible apply t1);rfl;trivial|(with_reducible apply t0);rfl;trivial
    exact ih
   |some i =>
    rw[hf] at ih;simp only[Bool.false_eq_true,if_false,Option.map_some];refine tJ rfl ?_;repeat first|with_reducible constructor|(with_reducible apply tG);kernel_rfl;intro _ _;(repeat apply tOp;intro _;simp only[hg,hget,h0,hcall,hw,go_sem];rfl);rfl;simp only[go_sem];rfl|(with_reducible apply t1);rfl;trivial|(with_reducible apply t0);rfl;trivial
    have:pre.length+(i+1)=(pre++[AVal.agg [a,b]]).length+i:=by simp;omega
    rw[this];exact ih
theorem c167 (g:FuncId) (hg:(ans g).ownArg=[]) (caps:List AVal) (p:AVal→Bool) (sto:Sto) (xs:List AVal) (h3:xs.length < 9223372036854775807) (h1:∀ x∈xs,∃ a b,x=.agg [a,b]) (h2:∀ x∈xs,CF kd (.fn g) (.val x::caps.map .val) sto=some (.ret (.val (.bool (p x))),sto)) :
  CF kd (.fn 167) [.val (.slice xs),.val (.func g caps)] sto=some (.ret (.val (.int .i64 (match xs.findIdx? p with|some i=>(i:Int)|none=>-1))),sto):=by
 obtain ⟨s4,s5,s9,s16,h⟩:=loop167 (kd:=kd) g hg caps p sto xs [] (by simpa using h3) h1 h2;cases hf:xs.findIdx? p with
 |none =>
  rw[hf] at h;apply tA;rfl;rfl;exact Tryz.func167;rfl;rfl;simp only[go_sem];rfl;refine tQ ?_;repeat first|with_reducible constructor|(with_reducible apply tG);kernel_rfl;intro _ _;(repeat apply tOp;intro _;simp only[go_sem];rfl);rfl;simp only[go_sem];rfl|(with_reducible apply tM);assumption
  exact fin0 rfl
 |some i =>
  rw[hf] at h;simp only[List.length_nil,Nat.zero_add] at h;apply tA;rfl;rfl;exact Tryz.func167;rfl;rfl;simp only[go_sem];rfl;refine tQ ?_;repeat first|with_reducible constructor|(with_reducible apply tG);kernel_rfl;intro _ _;(repeat apply tOp;intro _;simp only[go_sem];rfl);rfl;simp only[go_sem];rfl|(with_reducible apply tM);assumption
  exact fin0 rfl
theorem c133 (g:FuncId) (hg:(ans g).ownArg=[]) (caps:List AVal) (p:AVal→Bool) (sto:Sto) (xs:List AVal) (h3:xs.length < 9223372036854775807) (h1:∀ x∈xs,∃ a b,x=.agg [a,b]) (h2:∀ x∈xs,CF kd (.fn g) (.val x::caps.map .val) sto=some (.ret (.val (.bool (p x))),sto)) :
  CF kd (.fn 133) [.val (.slice xs),.val (.func g caps)] sto=some (.ret (.val (.bool (xs.any p))),sto):=by
 have h:=c167 (kd:=kd) g hg caps p sto xs h3 h1 h2
 have hr:decide ((match xs.findIdx? p with|some i=>(i:Int)|none=>-1)≥0)=xs.any p:=by
  cases hf:xs.findIdx? p with
  |none =>
   rw[List.findIdx?_eq_none_iff] at hf
   have:xs.any p=false:=by rw[List.any_eq_false];intro x hx;simp [hf x hx]
   rw[this];rfl
  |some i =>
   have:xs.any p=true:=by
    have:=List.of_findIdx?_eq_some hf
    rw[List.any_eq_true];cases hx:xs[i]? with
    |none=>rw[hx] at this;simp at this
    |some x=>rw[hx] at this;exact ⟨x,List.mem_of_getElem? hx,this⟩
   rw[this];simp
 rw[←hr];apply tA;rfl;rfl;exact Tryz.func133;rfl;rfl;simp only[go_sem];rfl;refine tQ ?_;repeat first|with_reducible constructor|(with_reducible apply tG);kernel_rfl;intro _ _;(repeat apply tOp;intro _;simp only[h,go_sem];rfl);rfl;simp only[go_sem];rfl
 exact fin0 rfl
theorem loop162 (g:FuncId) (hg:(ans g).ownArg=[]) (caps:List AVal) (p:AVal→Bool) (sto:Sto) (ys:List AVal):∀ (pre:List AVal),(pre++ys).length < 9223372036854775807 →
  (∀ x∈ys,∃ a,x=.str a)→(∀ x∈ys,CF kd (.fn g) (.val x::caps.map .val) sto=some (.ret (.val (.bool (p x))),sto)) →
  ∃ s4 s5 s9 s16,LP kd 162 (loopOf Tryz.f162 0) ⟨[.val (.slice (pre++ys)),.val (.func g caps),.dead,.dead,.val (.int .i64 ((pre++ys).length:Nat)),.val (.int .i64 (pre.length:Nat)),.dead,.dead],sto⟩=(match ys.findIdx? p with
   |some i=>some (.ret,⟨[.val (.slice (pre++ys)),.val (.func g caps),.val (.int .i64 ((pre.length+i:Nat):Int)),s5,.val (.int .i64 ((pre++ys).length:Nat)),s4,s9,s16],sto⟩)
   |none=>some (.exit 0,⟨[.val (.slice (pre++ys)),.val (.func g caps),s4,s5,.val (.int .i64 ((pre++ys).length:Nat)),.val (.int .i64 ((pre++ys).length:Nat)),s9,s16],sto⟩)):=by
 induction ys with
 |nil =>
  intro pre h3 h1 h2;simp only[List.append_nil,List.findIdx?_nil];iterate 4 apply Exists.intro
  refine tJ rfl ?_;repeat first|with_reducible constructor|(with_reducible apply tG);kernel_rfl;intro _ _;(repeat apply tOp;intro _;simp only[go_sem];rfl);rfl;simp only[go_sem];rfl
  (with_reducible apply tF);simp only[go_sem];rfl;simp;refine tQ ?_;repeat with_reducible constructor
  exact tlX
 |cons y ys ih =>
  intro pre h3 h1 h2;obtain ⟨a,rfl⟩:=h1 y (by simp);have hget:(pre++.str a::ys)[((pre.length:Nat):Int).toNat]?=some (.str a):=by simp
  have hlt:decide ((pre.length:Int) < ((pre++.str a::ys).length:Nat))=true:=by simp;omega
  have h0:decide (0≤((pre.length:Nat):Int))=true:=by simp
  have hcall:=h2 (.str a) (by simp);rw[List.findIdx?_cons];cases hp:p (.str a) with
  |true =>
   iterate 4 apply Exists.intro
   refine tJ rfl ?_;repeat first|with_reducible constructor|(with_reducible apply tG);kernel_rfl;intro _ _;(repeat apply tOp;intro _;simp only[hg,hget,h0,hcall,go_sem];rfl);rfl;simp only[go_sem];rfl|(with_reducible apply t1);rfl;trivial
   exact tlE
  |false =>
   have hw:IntKind.i64.wrap ((pre.length:Int)+1)=((pre++[AVal.str a]).length:Nat):=by
    rw[wrapOk (by omega) (by simp at h3;omega)];simp
   obtain ⟨s4,s5,s9,s16,ih⟩:=ih (pre++[.str a]) (by simpa using h3) (fun x hx=>h1 x (by simp [hx])) (fun x hx=>h2 x (by simp [hx]));simp only[List.append_assoc,List.singleton_append] at ih;refine ⟨s4,s5,s9,s16,?_⟩;cases hf:List.findIdx? p ys with
   |none =>
    rw[hf] at ih;simp only[Bool.false_eq_true,if_false,Option.map_none];refine tJ rfl ?_;repeat first|with_reducible constructor|(with_reducible apply tG);kernel_rfl;intro _ _;(repeat apply tOp;intro _;simp only[hg,hget,h0,hcall,hw,go_sem];rfl);rfl;simp only[go_sem];rfl|(with_reducible apply t1);rfl;trivial|(with_reducible apply t0);rfl;trivial
    exact ih
   |some i =>
    rw[hf] at ih;simp only[Bool.false_eq_true,if_false,Option.map_some];refine tJ rfl ?_;repeat first|with_reducible constructor|(with_reducible apply tG);kernel_rfl;intro _ _;(repeat apply tOp;intro _;simp only[hg,hget,h0,hcall,hw,go_sem];rfl);rfl;simp only[go_sem];rfl|(with_reducible apply t1);rfl;trivial|(with_reducible apply t0);rfl;trivial
    have:pre.length+(i+1)=(pre++[AVal.str a]).length+i:=by simp;omega
    rw[this];exact ih
theorem c162 (g:FuncId) (hg:(ans g).ownArg=[]) (caps:List AVal) (p:AVal→Bool) (sto:Sto) (xs:List AVal) (h3:xs.length < 9223372036854775807) (h1:∀ x∈xs,∃ a,x=.str a) (h2:∀ x∈xs,CF kd (.fn g) (.val x::caps.map .val) sto=some (.ret (.val (.bool (p x))),sto)) :
  CF kd (.fn 162) [.val (.slice xs),.val (.func g caps)] sto=some (.ret (.val (.int .i64 (match xs.findIdx? p with|some i=>(i:Int)|none=>-1))),sto):=by
 obtain ⟨s4,s5,s9,s16,h⟩:=loop162 (kd:=kd) g hg caps p sto xs [] (by simpa using h3) h1 h2;cases hf:xs.findIdx? p with
 |none =>
  rw[hf] at h;apply tA;rfl;rfl;exact Tryz.func162;rfl;rfl;simp only[go_sem];rfl;refine tQ ?_;repeat first|with_reducible constructor|(with_reducible apply tG);kernel_rfl;intro _ _;(repeat apply tOp;intro _;simp only[go_sem];rfl);rfl;simp only[go_sem];rfl|(with_reducible apply tM);assumption
  exact fin0 rfl
 |some i =>
  rw[hf] at h;simp only[List.length_nil,Nat.zero_add] at h;apply tA;rfl;rfl;exact Tryz.func162;rfl;rfl;simp only[go_sem];rfl;refine tQ ?_;repeat first|with_reducible constructor|(with_reducible apply tG);kernel_rfl;intro _ _;(repeat apply tOp;intro _;simp only[go_sem];rfl);rfl;simp only[go_sem];rfl|(with_reducible apply tM);assumption
  exact fin0 rfl
theorem c121 (g:FuncId) (hg:(ans g).ownArg=[]) (caps:List AVal) (p:AVal→Bool) (sto:Sto) (xs:List AVal) (h3:xs.length < 9223372036854775807) (h1:∀ x∈xs,∃ a,x=.str a) (h2:∀ x∈xs,CF kd (.fn g) (.val x::caps.map .val) sto=some (.ret (.val (.bool (p x))),sto)) :
  CF kd (.fn 121) [.val (.slice xs),.val (.func g caps)] sto=some (.ret (.val (.bool (xs.any p))),sto):=by
 have h:=c162 (kd:=kd) g hg caps p sto xs h3 h1 h2
 have hr:decide ((match xs.findIdx? p with|some i=>(i:Int)|none=>-1)≥0)=xs.any p:=by
  cases hf:xs.findIdx? p with
  |none =>
   rw[List.findIdx?_eq_none_iff] at hf
   have:xs.any p=false:=by rw[List.any_eq_false];intro x hx;simp [hf x hx]
   rw[this];rfl
  |some i =>
   have:xs.any p=true:=by
    have:=List.of_findIdx?_eq_some hf
    rw[List.any_eq_true];cases hx:xs[i]? with
    |none=>rw[hx] at this;simp at this
    |some x=>rw[hx] at this;exact ⟨x,List.mem_of_getElem? hx,this⟩
   rw[this];simp
 rw[←hr];apply tA;rfl;rfl;exact Tryz.func121;rfl;rfl;simp only[go_sem];rfl;refine tQ ?_;repeat first|with_reducible constructor|(with_reducible apply tG);kernel_rfl;intro _ _;(repeat apply tOp;intro _;simp only[h,go_sem];rfl);rfl;simp only[go_sem];rfl
 exact fin0 rfl
end
section
open Go.AM
set_option maxRecDepth 100000
variable {kd:List UInt8→Int}
noncomputable def says (cf:Oracle) (g:FuncId) (caps:List AVal) (sto:Sto) (v:AVal):Bool :=
 match cf (.fn g) (.val v::caps.map .val) sto with
 |some (.ret (.val (.bool b)),_)=>b
 |_=>false
theorem says_eq {cf:Oracle} {g:FuncId} {caps:List AVal} {sto:Sto} {v:AVal} {b:Bool} (h:cf (.fn g) (.val v::caps.map .val) sto=some (.ret (.val (.bool b)),sto)):says cf g caps sto v=b:=by
 simp only[says,h]
theorem any_says {α:Type} {enc:α→AVal} {p:α→Bool} {q:AVal→Bool}:∀ {l:List α},(∀ x∈l,q (enc x)=p x)→(l.map enc).any q=l.any p
 |[],h=>rfl
 |x::l,h=>by
  have ih:=any_says (enc:=enc) (p:=p) (q:=q) (l:=l) fun y hy=>h y (by simp [hy])
  simp only[List.map_cons,List.any_cons,h x (by simp),ih]
theorem c56m {α:Type} (enc:α→AVal) (p:α→Bool) (l:List α) {g:FuncId} (hg:(ans g).ownArg=[]) (caps:List AVal) (sto:Sto) (h3:l.length < 9223372036854775807) (h1:∀ x∈l,∃ a b c,enc x=.agg [a,b,c]) (h2:∀ x∈l,CF kd (.fn g) (.val (enc x)::caps.map .val) sto=some (.ret (.val (.bool (p x))),sto)) :
  CF kd (.fn 56) [.val (.slice (l.map enc)),.val (.func g caps)] sto=some (.ret (.val (.bool (l.any p))),sto):=by
 have hs:∀ x∈l,says (CF kd) g caps sto (enc x)=p x:=fun x hx=>says_eq (h2 x hx)
 rw[←any_says hs];exact c56 g hg caps _ sto _ (by simpa using h3) (fun v hv=>by obtain ⟨x,hx,rfl⟩:=List.mem_map.1 hv;exact h1 x hx) (fun v hv=>by obtain ⟨x,hx,rfl⟩:=List.mem_map.1 hv;rw[hs x hx];exact h2 x hx)
theorem c133m {α:Type} (enc:α→AVal) (p:α→Bool) (l:List α) {g:FuncId} (hg:(ans g).ownArg=[]) (caps:List AVal) (sto:Sto) (h3:l.length < 9223372036854775807) (h1:∀ x∈l,∃ a b,enc x=.agg [a,b]) (h2:∀ x∈l,CF kd (.fn g) (.val (enc x)::caps.map .val) sto=some (.ret (.val (.bool (p x))),sto)) :
  CF kd (.fn 133) [.val (.slice (l.map enc)),.val (.func g caps)] sto=some (.ret (.val (.bool (l.any p))),sto):=by
 have hs:∀ x∈l,says (CF kd) g caps sto (enc x)=p x:=fun x hx=>says_eq (h2 x hx)
 rw[←any_says hs];exact c133 g hg caps _ sto _ (by simpa using h3) (fun v hv=>by obtain ⟨x,hx,rfl⟩:=List.mem_map.1 hv;exact h1 x hx) (fun v hv=>by obtain ⟨x,hx,rfl⟩:=List.mem_map.1 hv;rw[hs x hx];exact h2 x hx)
theorem c121m {α:Type} (enc:α→AVal) (p:α→Bool) (l:List α) {g:FuncId} (hg:(ans g).ownArg=[]) (caps:List AVal) (sto:Sto) (h3:l.length < 9223372036854775807) (h1:∀ x∈l,∃ a,enc x=.str a) (h2:∀ x∈l,CF kd (.fn g) (.val (enc x)::caps.map .val) sto=some (.ret (.val (.bool (p x))),sto)) :
  CF kd (.fn 121) [.val (.slice (l.map enc)),.val (.func g caps)] sto=some (.ret (.val (.bool (l.any p))),sto):=by
 have hs:∀ x∈l,says (CF kd) g caps sto (enc x)=p x:=fun x hx=>says_eq (h2 x hx)
 rw[←any_says hs];exact c121 g hg caps _ sto _ (by simpa using h3) (fun v hv=>by obtain ⟨x,hx,rfl⟩:=List.mem_map.1 hv;exact h1 x hx) (fun v hv=>by obtain ⟨x,hx,rfl⟩:=List.mem_map.1 hv;rw[hs x hx];exact h2 x hx)
def deepD:Nat→PaD→Bool
 |0,_=>true
 |m+1,p=>p.args.any (deepD m)
theorem ann135:(ans 135).ownArg=[]:=by rw[an135]
theorem c135 {m:Nat} {x:PaD} {i:Nat} {sto:Sto} (hm:m < big) (hi:sto.objs[i]?=some (.box [.val (.int .i64 (m+1:Nat))])) (h:∀ sto,CF kd (.fn 83) [.val x.enc,.val (.int .i64 (m:Nat))] sto=some (.ret (.val (.bool (deepD m x))),sto)) :
  CF kd (.fn 135) [.val x.enc,.val (.loc i 0)] sto=some (.ret (.val (.bool (deepD m x))),sto):=by
 have hw:IntKind.i64.wrap (((m+1:Nat):Int) - 1)=(m:Nat):=by rw[wrapOk (by omega) (by simp only[big] at hm;omega)];omega
 have h':=h sto;rw[PaD.enc_eq] at h' ⊢;apply tA;rfl;rfl;exact Tryz.func135;rfl;rfl;simp only[go_sem];rfl;refine tQ ?_;repeat first|with_reducible constructor|(with_reducible apply tG);kernel_rfl;intro _ _;(repeat apply tOp;intro _;simp only[hi,hw,h',go_sem];rfl);rfl;simp only[go_sem];rfl
 exact fin0 rfl
theorem c83 (m:Nat):m < big→∀ (p:PaD) (sto:Sto),p.size < big→CF kd (.fn 83) [.val p.enc,.val (.int .i64 (m:Nat))] sto=some (.ret (.val (.bool (deepD m p))),sto):=by
 induction m with
 |zero =>
  intro hm p sto hp;have hb:((((0:Nat):Int)==0):Bool)=true:=rfl;rw[PaD.enc_eq];apply tA;rfl;rfl;exact Tryz.func83;rfl;rfl;simp only[go_sem];rfl;refine tQ ?_;repeat first|with_reducible constructor|(with_reducible apply tG);kernel_rfl;intro _ _;(repeat apply tOp;intro _;simp only[hb,go_sem];rfl);rfl;simp only[go_sem];rfl
  exact fin1 [_] rfl
 |succ m ih =>
  intro hm p sto hp;have hb:((((m+1:Nat):Int)==0):Bool)=false:=by simp;omega
  have hc:=c56m (kd:=kd) PaD.enc (deepD m) p.args ann135 [.loc sto.objs.length 0] ⟨sto.objs++[.box [.val (.int .i64 (m+1:Nat))]],sto.lo⟩ (by have:=p.args_len;simp only[big] at hp;omega) (fun x _=>⟨_,_,_,x.enc_eq⟩)
   (fun x hx=>c135 (by omega) (by simp) fun s=>ih (by omega) x s (by have:=PaD.args_size hx;omega))
  rw[PaD.enc_eq];apply tA;rfl;rfl;exact Tryz.func83;rfl;rfl;simp only[go_sem];rfl;refine tQ ?_;repeat first|with_reducible constructor|(with_reducible apply tG);kernel_rfl;intro _ _;(repeat apply tOp;intro _;simp only[hb,hc,go_sem];rfl);rfl;simp only[go_sem];rfl
  exact fin1 [_] rfl
end
section
open Go.AM
set_option maxRecDepth 100000
variable {kd:List UInt8→Int}
def isK (kd:List UInt8→Int) (k:Int) (s:List UInt8):Bool:=kd s==k
theorem c163 (s:List UInt8) (sto:Sto):CF kd (.fn 163) [.val (.str s)] sto=some (.ret (.val (.int .i64 (kd s))),sto):=fnP (r:=.ret (.val (.int .i64 (kd s)))) rfl rfl
theorem c123 (s:List UInt8) (sto:Sto):CF kd (.fn 123) [.val (.str s)] sto=some (.ret (.val (.bool (isK kd 4 s))),sto):=by
 have h:=c163 (kd:=kd) s sto;apply tA;rfl;rfl;exact Tryz.func123;rfl;rfl;simp only[go_sem];rfl;refine tQ ?_;repeat first|with_reducible constructor|(with_reducible apply tG);kernel_rfl;intro _ _;(repeat apply tOp;intro _;simp only[h,go_sem];rfl);rfl;simp only[go_sem];rfl
 exact fin0 rfl
theorem c125 (s:List UInt8) (sto:Sto):CF kd (.fn 125) [.val (.str s)] sto=some (.ret (.val (.bool (isK kd 3 s))),sto):=by
 have h:=c163 (kd:=kd) s sto;apply tA;rfl;rfl;exact Tryz.func125;rfl;rfl;simp only[go_sem];rfl;refine tQ ?_;repeat first|with_reducible constructor|(with_reducible apply tG);kernel_rfl;intro _ _;(repeat apply tOp;intro _;simp only[h,go_sem];rfl);rfl;simp only[go_sem];rfl
 exact fin0 rfl
theorem c155 (s:List UInt8) (sto:Sto):CF kd (.fn 155) [.val (.str s)] sto=some (.ret (.val (.bool (isK kd 2 s))),sto):=by
 have h:=c163 (kd:=kd) s sto;apply tA;rfl;rfl;exact Tryz.func155;rfl;rfl;simp only[go_sem];rfl;refine tQ ?_;repeat first|with_reducible constructor|(with_reducible apply tG);kernel_rfl;intro _ _;(repeat apply tOp;intro _;simp only[h,go_sem];rfl);rfl;simp only[go_sem];rfl
 exact fin0 rfl
theorem c132 (t:TyD) (sto:Sto):CF kd (.fn 132) [.val t.enc] sto=some (.ret (.val (.bool (isK kd 4 t.name))),sto):=by
 have h:=c123 (kd:=kd) t.name sto;rw[TyD.enc_eq];apply tA;rfl;rfl;exact Tryz.func132;rfl;rfl;simp only[go_sem];rfl;refine tQ ?_;repeat first|with_reducible constructor|(with_reducible apply tG);kernel_rfl;intro _ _;(repeat apply tOp;intro _;simp only[h,go_sem];rfl);rfl;simp only[go_sem];rfl
 exact fin0 rfl
theorem loop115 (v:List UInt8) (sto:Sto) (ys:List (List UInt8)):∀ (pre:List (List UInt8)),(pre++ys).length < 9223372036854775807 →
  ∃ s4 s5 s9 s16,LP kd 115 (loopOf Tryz.f115 0) ⟨[.val (.slice ((pre++ys).map .str)),.val (.str v),.dead,.dead,.val (.int .i64 ((pre++ys).length:Nat)),.val (.int .i64 (pre.length:Nat)),.dead,.dead],sto⟩=(match ys.findIdx? (fun y=>v==y) with
   |some i=>some (.ret,⟨[.val (.slice ((pre++ys).map .str)),.val (.str v),.val (.int .i64 ((pre.length+i:Nat):Int)),s5,.val (.int .i64 ((pre++ys).length:Nat)),s4,s9,s16],sto⟩)
   |none=>some (.exit 0,⟨[.val (.slice ((pre++ys).map .str)),.val (.str v),s4,s5,.val (.int .i64 ((pre++ys).length:Nat)),.val (.int .i64 ((pre++ys).length:Nat)),s9,s16],sto⟩)):=by
 induction ys with
 |nil =>
  intro pre h3;simp only[List.append_nil,List.findIdx?_nil];iterate 4 apply Exists.intro
  refine tJ rfl ?_;repeat first|with_reducible constructor|(with_reducible apply tG);kernel_rfl;intro _ _;(repeat apply tOp;intro _;simp only[go_sem];rfl);rfl;simp only[go_sem];rfl
  (with_reducible apply tF);simp only[go_sem];rfl;simp;refine tQ ?_;repeat with_reducible constructor
  exact tlX
 |cons y ys ih =>
  intro pre h3;have hget:((pre++y::ys).map AVal.str)[((pre.length:Nat):Int).toNat]?=some (.str y):=by simp
  have hlt:decide ((pre.length:Int) < ((pre++y::ys).length:Nat))=true:=by simp;omega
  have h0:decide (0≤((pre.length:Nat):Int))=true:=by simp
  rw[List.findIdx?_cons];cases hp:(v==y) with
  |true =>
   iterate 4 apply Exists.intro
   refine tJ rfl ?_;repeat first|with_reducible constructor|(with_reducible apply tG);kernel_rfl;intro _ _;(repeat apply tOp;intro _;simp only[hget,h0,go_sem];rfl);rfl;simp only[go_sem];rfl|(with_reducible apply t1);rfl;trivial
   exact tlE
  |false =>
   have hw:IntKind.i64.wrap ((pre.length:Int)+1)=((pre++[y]).length:Nat):=by
    rw[wrapOk (by omega) (by simp at h3;omega)];simp
   obtain ⟨s4,s5,s9,s16,ih⟩:=ih (pre++[y]) (by simpa using h3);simp only[List.append_assoc,List.singleton_append] at ih;refine ⟨s4,s5,s9,s16,?_⟩;cases hf:List.findIdx? (fun y=>v==y) ys with
   |none =>
    rw[hf] at ih;simp only[Bool.false_eq_true,if_false,Option.map_none];refine tJ rfl ?_;repeat first|with_reducible constructor|(with_reducible apply tG);kernel_rfl;intro _ _;(repeat apply tOp;intro _;simp only[hget,h0,hw,go_sem];rfl);rfl;simp only[go_sem];rfl|(with_reducible apply t1);rfl;trivial|(with_reducible apply t0);rfl;trivial
    exact ih
   |some i =>
    rw[hf] at ih;simp only[Bool.false_eq_true,if_false,Option.map_some];refine tJ rfl ?_;repeat first|with_reducible constructor|(with_reducible apply tG);kernel_rfl;intro _ _;(repeat apply tOp;intro _;simp only[hget,h0,hw,go_sem];rfl);rfl;simp only[go_sem];rfl|(with_reducible apply t1);rfl;trivial|(with_reducible apply t0);rfl;trivial
    have:pre.length+(i+1)=(pre++[y]).length+i:=by simp;omega
    rw[this];exact ih
theorem c115 (v:List UInt8) (sto:Sto) (xs:List (List UInt8)) (h3:xs.length < 9223372036854775807) :
  CF kd (.fn 115) [.val (.slice (xs.map .str)),.val (.str v)] sto=some (.ret (.val (.int .i64 (match xs.findIdx? (fun y=>v==y) with|some i=>(i:Int)|none=>-1))),sto):=by
 obtain ⟨s4,s5,s9,s16,h⟩:=loop115 (kd:=kd) v sto xs [] (by simpa using h3);have hl:(xs.map AVal.str).length=xs.length:=by simp
 cases hf:xs.findIdx? (fun y=>v==y) with
 |none =>
  rw[hf] at h;apply tA;rfl;rfl;exact Tryz.func115;rfl;rfl;simp only[go_sem];rfl;refine tQ ?_;repeat first|with_reducible constructor|(with_reducible apply tG);kernel_rfl;intro _ _;(repeat apply tOp;intro _;simp only[List.length_map,go_sem];rfl);rfl;simp only[go_sem];rfl|(with_reducible apply tM);assumption
  exact fin0 rfl
 |some i =>
  rw[hf] at h;simp only[List.length_nil,Nat.zero_add] at h;apply tA;rfl;rfl;exact Tryz.func115;rfl;rfl;simp only[go_sem];rfl;refine tQ ?_;repeat first|with_reducible constructor|(with_reducible apply tG);kernel_rfl;intro _ _;(repeat apply tOp;intro _;simp only[List.length_map,go_sem];rfl);rfl;simp only[go_sem];rfl|(with_reducible apply tM);assumption
  exact fin0 rfl
theorem idx_ge {α:Type} (p:α→Bool) (xs:List α):decide ((match xs.findIdx? p with|some i=>(i:Int)|none=>-1)≥0)=xs.any p:=by
 cases hf:xs.findIdx? p with
 |none =>
  rw[List.findIdx?_eq_none_iff] at hf
  have:xs.any p=false:=by rw[List.any_eq_false];intro x hx;simp [hf x hx]
  rw[this];rfl
 |some i =>
  have:xs.any p=true:=by
   have:=List.of_findIdx?_eq_some hf
   rw[List.any_eq_true];cases hx:xs[i]? with
   |none=>rw[hx] at this;simp at this
   |some x=>rw[hx] at this;exact ⟨x,List.mem_of_getElem? hx,this⟩
  rw[this];simp
theorem c127 (v:List UInt8) (sto:Sto) (xs:List (List UInt8)) (h3:xs.length < 9223372036854775807) :
  CF kd (.fn 127) [.val (.slice (xs.map .str)),.val (.str v)] sto=some (.ret (.val (.bool (xs.any fun y=>v==y))),sto):=by
 have h:=c115 (kd:=kd) v sto xs h3;rw[←idx_ge];apply tA;rfl;rfl;exact Tryz.func127;rfl;rfl;simp only[go_sem];rfl;refine tQ ?_;repeat first|with_reducible constructor|(with_reducible apply tG);kernel_rfl;intro _ _;(repeat apply tOp;intro _;simp only[h,go_sem];rfl);rfl;simp only[go_sem];rfl
 exact fin0 rfl
def Ext (s s':Sto):Prop:=∃ e,s'=⟨s.objs++e,s.lo⟩
theorem Ext.refl (s:Sto):Ext s s:=⟨[],by simp⟩
theorem Ext.one (s:Sto) (a:AObj):Ext s ⟨s.objs++[a],s.lo⟩:=⟨[a],rfl⟩
theorem Ext.trans {a b c:Sto} (h:Ext a b) (k:Ext b c):Ext a c:=by
 obtain ⟨e,rfl⟩:=h;obtain ⟨e',rfl⟩:=k;exact ⟨e++e',by simp⟩
theorem Ext.get {a b:Sto} (h:Ext a b) {i:Nat} {o:AObj} (hi:a.objs[i]?=some o):b.objs[i]?=some o:=by
 obtain ⟨e,rfl⟩:=h;simp only;rw[List.getElem?_append_left (List.getElem?_eq_some_iff.1 hi).1];exact hi
theorem any_attach {α:Type} (l:List α) (f:α→Bool):(l.attach.any fun a=>f a.1)=l.any f:=by
 have h:(l.attach.map Subtype.val).any f=l.any f:=by rw[List.attach_map_subtype_val]
 rw[←h,List.any_map];rfl
def hasVarD (vr q:List UInt8→Bool) (t:TyD):Bool:=(vr t.name&&q t.name)||t.args.attach.any fun a=>hasVarD vr q a.1
termination_by t.size
decreasing_by exact TyD.args_size a.2
theorem hasVarD_eq (vr q:List UInt8→Bool) (t:TyD):hasVarD vr q t=((vr t.name&&q t.name)||t.args.any (hasVarD vr q)):=by rw[hasVarD,any_attach]
theorem ann164:(ans 164).ownArg=[]:=by rw[an164]
theorem ann165:(ans 165).ownArg=[]:=by rw[an165]
theorem ann166:(ans 166).ownArg=[]:=by rw[an166]
theorem c164 {g:FuncId} {caps:List AVal} {x:TyD} {i:Nat} {sto:Sto} {b:Bool} (hi:sto.objs[i]?=some (.box [.val (.func g caps)])) (h:CF kd (.fn 128) [.val x.enc,.val (.func g caps)] sto=some (.ret (.val (.bool b)),sto)) :
  CF kd (.fn 164) [.val x.enc,.val (.loc i 0)] sto=some (.ret (.val (.bool b)),sto):=by
 rw[TyD.enc_eq] at h ⊢;apply tA;rfl;rfl;exact Tryz.func164;rfl;rfl;simp only[go_sem];rfl;refine tQ ?_;repeat first|with_reducible constructor|(with_reducible apply tG);kernel_rfl;intro _ _;(repeat apply tOp;intro _;simp only[hi,h,go_sem];rfl);rfl;simp only[go_sem];rfl
 exact fin0 rfl
theorem c128 {g:FuncId} (hg:(ans g).ownArg=[]) (caps:List AVal) (q:List UInt8→Bool):∀ (t:TyD) (sto:Sto),t.size < big→(∀ n,sto.objs.length≤n→caps.all (lokF n)=true) →
  (∀ sto',Ext sto sto'→∀ s,CF kd (.fn g) (.val (.str s)::caps.map .val) sto'=some (.ret (.val (.bool (q s))),sto')) →
  CF kd (.fn 128) [.val t.enc,.val (.func g caps)] sto=some (.ret (.val (.bool (hasVarD (isK kd 4) q t))),sto):=by
 refine TyD.ind fun t ih sto ht hcl hq=>?_
 have hl:=hcl _ (Nat.le_refl _);have hs1:=Ext.one sto (.box [.val (.func g caps)]);have hv:=c132 (kd:=kd) t ⟨sto.objs++[.box [.val (.func g caps)]],sto.lo⟩;have hq1:=hq _ hs1 t.name
 have hc:=c133m (kd:=kd) TyD.enc (hasVarD (isK kd 4) q) t.args ann164 [.loc sto.objs.length 0] ⟨sto.objs++[.box [.val (.func g caps)]],sto.lo⟩ (by have:=t.args_len;simp only[big] at ht;omega) (fun x _=>⟨_,_,x.enc_eq⟩)
  (fun x hx=>c164 (by simp) (ih x hx _ (by have:=TyD.args_size hx;omega) (fun n hn=>hcl n (by simp at hn;omega)) fun s' hs'=>hq s' (hs1.trans hs')))
 rw[hasVarD_eq];rw[TyD.enc_eq] at hv ⊢;cases hA:isK kd 4 t.name with
 |false =>
  rw[hA] at hv;apply tA;rfl;rfl;exact Tryz.func128;rfl;rfl;simp only[go_sem];rfl;refine tQ ?_;repeat first|with_reducible constructor|(with_reducible apply tG);kernel_rfl;intro _ _;(repeat apply tOp;intro _;simp only[hl,hv,hc,go_sem];rfl);rfl;simp only[go_sem];rfl
  exact fin1 [_] rfl
 |true =>
  rw[hA] at hv;cases hB:q t.name with
  |false =>
   rw[hB] at hq1;apply tA;rfl;rfl;exact Tryz.func128;rfl;rfl;simp only[go_sem];rfl;refine tQ ?_;repeat first|with_reducible constructor|(with_reducible apply tG);kernel_rfl;intro _ _;(repeat apply tOp;intro _;simp only[hl,hv,hc,hq1,hg,go_sem];rfl);rfl;simp only[go_sem];rfl
   exact fin1 [_] rfl
  |true =>
   rw[hB] at hq1;apply tA;rfl;rfl;exact Tryz.func128;rfl;rfl;simp only[go_sem];rfl;refine tQ ?_;repeat first|with_reducible constructor|(with_reducible apply tG);kernel_rfl;intro _ _;(repeat apply tOp;intro _;simp only[hl,hv,hc,hq1,hg,go_sem];rfl);rfl;simp only[go_sem];rfl
   exact fin1 [_] rfl
theorem bleA {s:Sto} (h:s.lo≤s.objs.length) (x:AObj):Nat.ble s.lo (s.objs++[x]).length=true:=Nat.ble_eq_true_of_le (by simp;omega)
theorem bleS {s:Sto} (h:s.lo≤s.objs.length):Nat.ble s.lo s.objs.length=true:=Nat.ble_eq_true_of_le h
def growsD (vr:List UInt8→Bool) (t:TyD):Bool:=t.args.attach.any fun a=>((!vr t.name&&!(t.name==[45,62])&&!(t.name==[44]))&&!vr a.1.name&&hasVarD vr (fun _=>true) a.1)||growsD vr a.1
termination_by t.size
decreasing_by exact TyD.args_size a.2
theorem growsD_eq (vr:List UInt8→Bool) (t:TyD):growsD vr t=t.args.any fun a=>((!vr t.name&&!(t.name==[45,62])&&!(t.name==[44]))&&!vr a.name&&hasVarD vr (fun _=>true) a)||growsD vr a:=by
 rw[growsD];exact any_attach t.args fun a=>((!vr t.name&&!(t.name==[45,62])&&!(t.name==[44]))&&!vr a.name&&hasVarD vr (fun _=>true) a)||growsD vr a
theorem c165 (s:List UInt8) (sto:Sto):CF kd (.fn 165) [.val (.str s)] sto=some (.ret (.val (.bool true)),sto):=by
 apply tA;rfl;rfl;exact Tryz.func165;rfl;rfl;simp only[go_sem];rfl;refine tQ ?_;repeat first|with_reducible constructor|(with_reducible apply tG);kernel_rfl;intro _ _;(repeat apply tOp;intro _;simp only[go_sem];rfl);rfl;simp only[go_sem];rfl
 exact fin0 rfl
theorem c166 {x:TyD} {i j:Nat} {sto:Sto} {d b:Bool} (hx:x.size < big) (hi:sto.objs[i]?=some (.box [.val (.bool d)])) (hj:sto.objs[j]?=some (.box [.val (.func 165 [])])) (h:CF kd (.fn 129) [.val x.enc] sto=some (.ret (.val (.bool b)),sto)) :
  CF kd (.fn 166) [.val x.enc,.val (.loc i 0),.val (.loc j 0)] sto=some (.ret (.val (.bool ((d&&!isK kd 4 x.name&&hasVarD (isK kd 4) (fun _=>true) x)||b))),sto):=by
 have hv:=c132 (kd:=kd) x sto;have hh:=c128 (kd:=kd) ann165 [] (fun _=>true) x sto hx (fun _ _=>rfl) (fun s' _ s=>c165 s s');rw[TyD.enc_eq] at h hv hh ⊢;cases hd:d with
 |false =>
  rw[hd] at hi;apply tA;rfl;rfl;exact Tryz.func166;rfl;rfl;simp only[go_sem];rfl;refine tQ ?_;repeat first|with_reducible constructor|(with_reducible apply tG);kernel_rfl;intro _ _;(repeat apply tOp;intro _;simp only[hi,hj,h,go_sem];rfl);rfl;simp only[go_sem];rfl
  exact fin0 rfl
 |true =>
  rw[hd] at hi;cases hA:isK kd 4 x.name with
  |true =>
   rw[hA] at hv;apply tA;rfl;rfl;exact Tryz.func166;rfl;rfl;simp only[go_sem];rfl;refine tQ ?_;repeat first|with_reducible constructor|(with_reducible apply tG);kernel_rfl;intro _ _;(repeat apply tOp;intro _;simp only[hi,hj,h,hv,go_sem];rfl);rfl;simp only[go_sem];rfl
   exact fin0 rfl
  |false =>
   rw[hA] at hv;cases hB:hasVarD (isK kd 4) (fun _=>true) x with
   |false =>
    rw[hB] at hh;apply tA;rfl;rfl;exact Tryz.func166;rfl;rfl;simp only[go_sem];rfl;refine tQ ?_;repeat first|with_reducible constructor|(with_reducible apply tG);kernel_rfl;intro _ _;(repeat apply tOp;intro _;simp only[hi,hj,h,hv,hh,go_sem];rfl);rfl;simp only[go_sem];rfl
    exact fin0 rfl
   |true =>
    rw[hB] at hh;apply tA;rfl;rfl;exact Tryz.func166;rfl;rfl;simp only[go_sem];rfl;refine tQ ?_;repeat first|with_reducible constructor|(with_reducible apply tG);kernel_rfl;intro _ _;(repeat apply tOp;intro _;simp only[hi,hj,h,hv,hh,go_sem];rfl);rfl;simp only[go_sem];rfl
    exact fin0 rfl
theorem c129:∀ (t:TyD) (sto:Sto),t.size < big→sto.lo≤sto.objs.length→CF kd (.fn 129) [.val t.enc] sto=some (.ret (.val (.bool (growsD (isK kd 4) t))),sto):=by
 refine TyD.ind fun t ih sto ht hlo=>?_
 have hb1:=bleS hlo;have hb2:=bleA hlo;have hv:=fun sto=>c132 (kd:=kd) t sto
 have hc:=fun (d:Bool)=>c133m (kd:=kd) TyD.enc (fun a=>(d&&!isK kd 4 a.name&&hasVarD (isK kd 4) (fun _=>true) a)||growsD (isK kd 4) a) t.args ann166 [.loc (sto.objs++[AObj.box [.val (.func 165 [])]]).length 0,.loc sto.objs.length 0]
  ⟨(sto.objs++[.box [.val (.func 165 [])]])++[.box [.val (.bool d)]],sto.lo⟩ (by have:=t.args_len;simp only[big] at ht;omega) (fun x _=>⟨_,_,x.enc_eq⟩)
  (fun x hx=>c166 (by have:=TyD.args_size hx;omega) (by simp) (by simp) (ih x hx _ (by have:=TyD.args_size hx;omega) (by simp;omega)))
 rw[growsD_eq];rw[TyD.enc_eq] at hv ⊢;generalize hR:(fun a:TyD=>((!isK kd 4 t.name&&!(t.name==[45,62])&&!(t.name==[44]))&&!isK kd 4 a.name&&hasVarD (isK kd 4) (fun _=>true) a)||growsD (isK kd 4) a)=F;cases hA:isK kd 4 t.name with
 |true =>
  rw[hA] at hv hR;have hc:=hc false;subst hR;apply tA;rfl;rfl;exact Tryz.func129;rfl;rfl;simp only[go_sem];rfl;refine tQ ?_;repeat first|with_reducible constructor|(with_reducible apply tG);kernel_rfl;intro _ _;(repeat apply tOp;intro _;simp only[hb1,hb2,hv,hc,go_sem];rfl);rfl;simp only[go_sem];rfl
  exact fin2 [_] [_] rfl
 |false =>
  rw[hA] at hv hR;cases hB:(t.name==[45,62]) with
  |true =>
   rw[hB] at hR;have hc:=hc false;subst hR;apply tA;rfl;rfl;exact Tryz.func129;rfl;rfl;simp only[go_sem];rfl;refine tQ ?_;repeat first|with_reducible constructor|(with_reducible apply tG);kernel_rfl;intro _ _;(repeat apply tOp;intro _;simp only[hb1,hb2,hv,hc,hB,go_sem];rfl);rfl;simp only[go_sem];rfl
   exact fin2 [_] [_] rfl
  |false =>
   rw[hB] at hR;cases hD:(t.name==[44]) with
   |true =>
    rw[hD] at hR;have hc:=hc false;subst hR;apply tA;rfl;rfl;exact Tryz.func129;rfl;rfl;simp only[go_sem];rfl;refine tQ ?_;repeat first|with_reducible constructor|(with_reducible apply tG);kernel_rfl;intro _ _;(repeat apply tOp;intro _;simp only[hb1,hb2,hv,hc,hB,hD,go_sem];rfl);rfl;simp only[go_sem];rfl
    exact fin2 [_] [_] rfl
   |false =>
    rw[hD] at hR;have hc:=hc true;subst hR;apply tA;rfl;rfl;exact Tryz.func129;rfl;rfl;simp only[go_sem];rfl;refine tQ ?_;repeat first|with_reducible constructor|(with_reducible apply tG);kernel_rfl;intro _ _;(repeat apply tOp;intro _;simp only[hb1,hb2,hv,hc,hB,hD,go_sem];rfl);rfl;simp only[go_sem];rfl
    exact fin2 [_] [_] rfl
end
end Go.Proofs.YtkmnkiekmlcfdaaGreatDoor
