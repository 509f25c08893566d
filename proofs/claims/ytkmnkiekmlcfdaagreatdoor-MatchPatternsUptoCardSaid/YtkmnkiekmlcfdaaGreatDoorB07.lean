/- Part B07 of the proof of one law of the program. -/
import Derived.Test.YtkmnkiekmlcfdaaGreatDoorB04
import Derived.Test.YtkmnkiekmlcfdaaGreatDoorB05
import Derived.Lib.ConvBytes
import Derived.Lib.AtoiAllCases
import Derived.Lib.ItoaLen
import Derived.Lib.SplitLaws
import Derived.Lib.IndexMore
import Derived.Lib.AppendIntMem
set_option linter.all false
namespace Go.AM
open Go.RowKit
variable {P:Program} {ans:FuncId→Ann} {B0:Nat}
def PureT (P:Program) (f:FuncId) (args res:List AVal):Prop :=
 (∃ F,P.funcs[f]?=some F∧F.body.isSome=true)∧∀ (w:World) (Ψ:HT) (vs:Array Value),WSat Ψ w→args.length=vs.size→(∀ (i:Nat) a,args[i]?=some a→VRel Ψ [] a (vs.getD i undef)) →
  ∀ c cs,∃ w' Ψ' us,Fr w Ψ (fun _=>none) w' Ψ' (fun _=>none)∧WSat Ψ' w'∧res.length=us.length∧(∀ (i:Nat) x u,res[i]?=some x→us[i]?=some u→VRel Ψ' [] x u)∧Steps P (lone (Frame.enter P f vs .normal) (c::cs) w) (lone (c.finish (.tuple ⟨us⟩)) cs w')
theorem PureT.prim {f:FuncId} {args res:List AVal} (h:PureT P f args res) (hl:∀ a∈args,lok 0 a=true):(∃ F,P.funcs[f]?=some F∧F.body.isSome=true) ∧
  ∀ sto w Ψ ρ ow vs,CallPre ans B0 w Ψ ρ ow (args.map .val) vs sto→∀ c cs,CallPost P ans B0 w Ψ ρ ow sto c cs (lone (Frame.enter P f vs .normal) (c::cs) w) (.ret (.tup res)) sto:=by
 refine ⟨h.1,fun sto w Ψ ρ ow vs hp c cs=>?_⟩
 obtain ⟨w',Ψ',us,hf,hw,hlen,hv,hs⟩:=h.2 w Ψ vs hp.wsat (by simpa using hp.size) (fun i a ha=>by
  have h1:=hp.args i (.val a) (by simp [ha]);have h2:=hl a (List.mem_of_getElem? ha);cases h1 with
  |val _ _ h1=>simpa using h1.lok h2) c cs
 have hfr:Fr w Ψ ow w' Ψ' ow:=⟨hf.le,hf.size,fun b hb _=>hf.keep b hb rfl,fun b hb=>.inl hb,hf.os,hf.tape,hf.output⟩
 refine ⟨w',Ψ',ρ,ow,hfr,pre_refl _,hw,hp.objs.mono hf.le fun i _ b s hb=>?_,fun b hb=>Nat.lt_of_lt_of_le (hp.lt b hb) hf.size,⟨rfl,Nat.le_refl _,fun _ _=>rfl⟩,rfl,_,.tup _ _ hlen (fun i x u h1 h2=>(hv i x u h1 h2).mono (HT.le_refl _) (pre_nil _)),hs⟩;have hb':=hp.lt b (by simp [hb])
 have:=hf.keep b hb' rfl
 exact ⟨hb,this.1,fun o ho=>by rw[this.2 o];exact ho⟩
end Go.AM
namespace Go.Proofs.YtkmnkiekmlcfdaaGreatDoor
open Go.AM Go.RowKit
set_option maxRecDepth 100000
theorem w_maxLen {Ψ:HT} {w:World} (h:WSat Ψ w):∃ m:Int,w.cell? ⟨0,0,none⟩=some (.int .i64 m):=by
 obtain ⟨m,hm⟩:=h.glob.maxLen;obtain ⟨_,v,hv,hr⟩:=h.sat _ _ _ hm;cases hr;exact ⟨m,hv⟩
theorem w_syn {Ψ:HT} {w:World} (h:WSat Ψ w):∃ ev,w.cell? ⟨1,0,none⟩=some ev∧(ev=.nilIface∨∃ te pe,ev=.iface te pe):=by
 obtain ⟨_,v,hv,hr⟩:=h.sat _ _ _ h.glob.syn;cases hr with
 |opq _ hh=>exact ⟨v,hv,hh⟩
theorem w_rng {Ψ:HT} {w:World} (h:WSat Ψ w):∃ ev,w.cell? ⟨2,0,none⟩=some ev∧(ev=.nilIface∨∃ te pe,ev=.iface te pe):=by
 obtain ⟨_,v,hv,hr⟩:=h.sat _ _ _ h.glob.rng;cases hr with
 |opq _ hh=>exact ⟨v,hv,hh⟩
theorem gPow':Tryz.prog.globalNamed "internal/strconv.uint64pow10"=some 5:=by kernel_rfl
theorem w_pow {Ψ:HT} {w:World} (h:WSat Ψ w):Lib.TabIs Tryz.prog w "internal/strconv.uint64pow10" .u64 Lib.pow10Tab:=by
 obtain ⟨cs,t,fr,h1,h2⟩:=h.len5;simp only[Lib.TabIs,World.var?,gPow',Option.bind_some,h1];congr 1;apply Array.ext
 ·simp [h2,Lib.pow10Tab_length]
 ·intro i h3 h4
  have hi:i < 20:=by omega
  obtain ⟨_,v,hv,hr⟩:=h.sat _ _ _ (h.glob.pow i hi);cases hr;rw[World.cell?,h1] at hv;simp only[Option.isSome_none,Bool.false_eq_true,if_false] at hv
  have:cs[i]=.int .u64 ((10 ^ i:Nat):Int):=by
   rw[Array.getElem?_eq_getElem h3] at hv;exact Option.some.inj hv
  rw[this];simp [Lib.pow10Tab]
def numV (s:List UInt8):Int:=match Lib.atoiAll (Lib.replace s [126] [45] 1) with
 |.ok n=>if Lib.replace (Lib.itoa n) [45] [126] 1==s then n else 0
 |_=>0
def numE (s:List UInt8):Int:=match Lib.atoiAll (Lib.replace s [126] [45] 1) with
 |.ok n=>if Lib.replace (Lib.itoa n) [45] [126] 1==s then 0 else 13
 |_=>13
theorem replaceK_len (a b:UInt8):∀ (k:Nat) (s:List UInt8),(Lib.replaceK [a] [b] k s).length≤s.length
 |0,s=>by simp [Lib.replaceK]
 |k+1,s=>by
  unfold Lib.replaceK;split
  ·exact Nat.le_refl _
  ·rename_i h
   have ih:=replaceK_len a b k (s.drop ((Lib.index s [a]).toNat+[a].length));simp only[List.length_append,List.length_take,List.length_drop,List.length_singleton] at ih ⊢;have h1:=Lib.index_room s [a];have h2:=Lib.index_spec s [a];have h3:Lib.index s [a]≠-1:=by simpa using h
   have h4:0≤Lib.index s [a]:=by
    rcases h2 with ⟨h2,_⟩|⟨i,h2,_⟩ <;> omega
   have h5:=h1 h4;simp only[List.length_singleton] at h5;clear h2 h3 h1;generalize Lib.index s [a]=i at *;generalize (Lib.replaceK [a] [b] k (List.drop (i.toNat+1) s)).length=q at *;omega
theorem replace_len (a b:UInt8) (n:Int) (s:List UInt8):(Lib.replace s [a] [b] n).length≤s.length:=by
 unfold Lib.replace;split
 ·exact Nat.le_refl _
 ·exact replaceK_len _ _ _ _
theorem rep_calls (s:ByteArray) (a b:UInt8) (hs:s.size≤100000) {Ψ:HT} {w:World} (hw:WSat Ψ w):Calls Tryz.prog 202 #[.string s,.string ⟨#[a]⟩,.string ⟨#[b]⟩,.int .i64 1] w fun e w'=>e=.returned (.string ⟨(Lib.replace s.data.toList [a] [b] 1).toArray⟩)∧Below w.heap.size w w':=by
 obtain ⟨m,hm⟩:=w_maxLen hw;have h1:1≤(⟨#[a]⟩:ByteArray).size:=Nat.le_refl _;have h2:=Lib.countB_le ⟨#[a]⟩ h1 _ s (Nat.le_refl _);exact Tryz.strings_Replace s ⟨#[a]⟩ ⟨#[b]⟩ 1 m w (by omega) hm h1 (by show s.size+Lib.countB s ⟨#[a]⟩ * 1≤_;omega)
theorem dig_calls (n:Int) (h0:-9223372036854775808≤n) (h1:n≤9223372036854775807) {Ψ:HT} {w:World} (hw:WSat Ψ w):Calls Tryz.prog 203 #[.int .i64 n] w fun e w'=>e=.returned (.string ⟨(Lib.replace (Lib.itoa n) [45] [126] 1).toArray⟩)∧Below w.heap.size w w':=by
 have hl:=Lib.itoa_length_le n h0 h1;have hp:=w_pow hw
 have key:∀ k os,Calls Tryz.prog 202 #[.string ⟨(Lib.itoa n).toArray⟩,.string ⟨#[45]⟩,.string ⟨#[126]⟩,.int .i64 1] (Go.Sort.grow (w.drewN k) os) fun e w'=>e=.returned (.string ⟨(Lib.replace (Lib.itoa n) [45] [126] 1).toArray⟩)∧Below w.heap.size w w':=fun k os=>by
  have hb:Below w.heap.size w (Go.Sort.grow (w.drewN k) os):=Lib.below_grow _ _ (Nat.le_refl _) _ _;refine (rep_calls ⟨(Lib.itoa n).toArray⟩ 45 126 (by show (Lib.itoa n).toArray.size≤_;simp;omega) (wsat_below hw hb)).mono fun e w' ⟨e1,e2⟩=>⟨e1,hb.trans (e2.mono hb.size)⟩
 go_enter Tryz.func203,Tryz.ntmps203
 go_wp2_with (first
  |(go_at_call 213;refine (Tryz.strconv_Itoa n h0 h1 w hp).mono ?_;rintro e w1 ⟨rfl,k,os,rfl⟩)
  |(go_at_call 202;refine (key _ _).mono ?_;rintro e w2 ⟨rfl,hb2⟩))
 go_ret
 exact ⟨rfl,hb2⟩
def AtErr (x:Lib.NumEnd Int) (v:Int) (err:Value):Prop:=match x with
 |.ok n=>v=n∧err=.nilIface
 |_=>∃ te pe,err=.iface te pe
theorem atoi_calls (s:ByteArray) (hs:s.size≤100000) {Ψ:HT} {w:World} (hw:WSat Ψ w):Calls Tryz.prog 201 #[.string s] w fun e w'=>∃ v err,e=.returned (.tuple #[.int .i64 v,err])∧AtErr (Lib.atoiAll s.data.toList) v err∧Below w.heap.size w w':=by
 cases hq:Lib.atoiAll s.data.toList
 ·rename_i v
  refine (Tryz.strconv_Atoi_ok s (by omega) v hq w).mono ?_
  rintro e w' ⟨rfl,h⟩
  refine ⟨_,_,rfl,⟨rfl,rfl⟩,?_⟩;rcases h with rfl|⟨t,rfl⟩
  ·exact Below.refl _ _
  ·exact Lib.bytesWorld_below _ _ _
 ·obtain ⟨ev,h1,h2⟩:=w_syn hw
  refine (Any.strconv_Atoi_syntax Tryz.laysC172 s (by omega) hq ev w h1 h2).mono ?_
  rintro e w' ⟨N,rfl,_,_,h⟩
  exact ⟨_,_,rfl,⟨_,_,rfl⟩,h⟩
 ·obtain ⟨ev,h1,h2⟩:=w_rng hw
  refine (Tryz.strconv_Atoi_range s (by omega) hq ev w h1 h2).mono ?_
  rintro e w' ⟨N,rfl,_,_,h⟩
  exact ⟨_,_,rfl,⟨_,_,rfl⟩,h⟩
theorem num_walk (s:ByteArray) (hs:s.size≤100000) {Ψ:HT} {w:World} (hw:WSat Ψ w):Calls Tryz.prog 198 #[.string s] w fun e w'=>e=.returned (.tuple #[.int .i64 (numV s.data.toList),.int .i64 (numE s.data.toList)])∧Below w.heap.size w w':=by
 have hr:=replace_len 126 45 1 s.data.toList
 have h201:∀ w1,Below w.heap.size w w1→Calls Tryz.prog 201 #[.string ⟨(Lib.replace s.data.toList [126] [45] 1).toArray⟩] w1 fun e w'=>∃ v err,e=.returned (.tuple #[.int .i64 v,err])∧AtErr (Lib.atoiAll (Lib.replace s.data.toList [126] [45] 1)) v err∧Below w.heap.size w w':=fun w1 hb=>by
  refine (atoi_calls ⟨(Lib.replace s.data.toList [126] [45] 1).toArray⟩ ?_ (wsat_below hw hb)).mono ?_
  ·show (Lib.replace s.data.toList [126] [45] 1).toArray.size≤_
   have:s.data.toList.length=s.size:=rfl
   simp only[List.size_toArray];omega
  ·rintro e w' ⟨v,err,h1,h2,h3⟩
   exact ⟨v,err,h1,h2,hb.trans (h3.mono hb.size)⟩
 have h203:∀ n w1,-9223372036854775808≤n→n≤9223372036854775807→Below w.heap.size w w1→Calls Tryz.prog 203 #[.int .i64 n] w1 fun e w'=>e=.returned (.string ⟨(Lib.replace (Lib.itoa n) [45] [126] 1).toArray⟩)∧Below w.heap.size w w':=fun n w1 h0 h1 hb=>(dig_calls n h0 h1 (wsat_below hw hb)).mono fun e w' ⟨e1,e2⟩=>⟨e1,hb.trans (e2.mono hb.size)⟩
 cases hq:Lib.atoiAll (Lib.replace s.data.toList [126] [45] 1)
 ·rename_i n
  have hn:=Lib.atoiAll_bounds hq;rw[hq] at h201;by_cases hd:Lib.replace (Lib.itoa n) [45] [126] 1=s.data.toList
  ·go_enter Tryz.func198,Tryz.ntmps198
   go_wp2_with (first
    |(go_at_call 202;refine (rep_calls s 126 45 hs hw).mono ?_;rintro e w1 ⟨rfl,hb1⟩)
    |(go_at_call 201;refine (h201 _ hb1).mono ?_;rintro e w2 ⟨v,err,rfl,⟨rfl,rfl⟩,hb2⟩)
    |(go_at_call 203;refine (h203 _ _ hn.1 hn.2 hb2).mono ?_;rintro e w3 ⟨rfl,hb3⟩))
   go_ret2
   exact ⟨by simp [numV,numE,hq,hd],hb3⟩
  ·go_enter Tryz.func198,Tryz.ntmps198
   go_wp2_with (first
    |(go_at_call 202;refine (rep_calls s 126 45 hs hw).mono ?_;rintro e w1 ⟨rfl,hb1⟩)
    |(go_at_call 201;refine (h201 _ hb1).mono ?_;rintro e w2 ⟨v,err,rfl,⟨rfl,rfl⟩,hb2⟩)
    |(go_at_call 203;refine (h203 _ _ hn.1 hn.2 hb2).mono ?_;rintro e w3 ⟨rfl,hb3⟩))
   ·go_ret2
    exact ⟨by simp [numV,numE,hq,hd],hb3⟩
   ·rename_i h
    rw[ByteArray.toList_eq] at h;simp [hd] at h
 ·rw[hq] at h201
  go_enter Tryz.func198,Tryz.ntmps198
  go_wp2_with (first
   |(go_at_call 202;refine (rep_calls s 126 45 hs hw).mono ?_;rintro e w1 ⟨rfl,hb1⟩)
   |(go_at_call 201;refine (h201 _ hb1).mono ?_;rintro e w2 ⟨v,err,rfl,⟨te,pe,rfl⟩,hb2⟩))
  go_ret2
  exact ⟨by simp [numV,numE,hq],hb2⟩
 ·rw[hq] at h201
  go_enter Tryz.func198,Tryz.ntmps198
  go_wp2_with (first
   |(go_at_call 202;refine (rep_calls s 126 45 hs hw).mono ?_;rintro e w1 ⟨rfl,hb1⟩)
   |(go_at_call 201;refine (h201 _ hb1).mono ?_;rintro e w2 ⟨v,err,rfl,⟨te,pe,rfl⟩,hb2⟩))
  go_ret2
  exact ⟨by simp [numV,numE,hq],hb2⟩
theorem vs1 {vs:Array Value} {n:Nat} (hl:n=vs.size) (h:n=1):vs=#[vs.getD 0 undef]:=by
 subst h;apply Array.ext
 ·simpa using hl.symm
 ·intro i h1 h2
  simp at h2;subst h2;simp [Array.getD,h1]
theorem vs2 {vs:Array Value} {n:Nat} (hl:n=vs.size) (h:n=2):vs=#[vs.getD 0 undef,vs.getD 1 undef]:=by
 subst h;apply Array.ext
 ·simpa using hl.symm
 ·intro i h1 h2
  simp at h2
  match i,h2 with
  |0,_=>simp [Array.getD,h1]
  |1,_=>simp [Array.getD,h1]
theorem p198 (s:List UInt8) (hs:s.length≤100000):PureT Tryz.prog 198 [.str s] [.int .i64 (numV s),.int .i64 (numE s)]:=by
 refine ⟨⟨_,Tryz.func198,by kernel_rfl⟩,fun w Ψ vs hw hl ha c cs=>?_⟩;have h0:=ha 0 _ rfl;have hvs:=vs1 hl rfl;generalize vs.getD 0 undef=v at h0 hvs;subst hvs;cases h0;have hcl:=(num_walk ⟨⟨s⟩⟩ hs hw).mono (R':=fun e w'=>∃ v,e=.returned v∧(v=.tuple #[.int .i64 (numV s),.int .i64 (numE s)]∧Below w.heap.size w w')) fun e w' ⟨e1,e2⟩=>⟨_,e1,rfl,e2⟩
 obtain ⟨w',v,⟨rfl,hb⟩,hst⟩:=steps_of_calls hcl c cs;refine ⟨w',Ψ,[.int .i64 (numV s),.int .i64 (numE s)],fr_below hb,wsat_below hw hb,rfl,fun i x u h1 h2=>?_,hst⟩
 match i with
 |0=>cases h1;cases h2;exact .int _ _
 |1=>cases h1;cases h2;exact .int _ _
 |i+2=>cases h1
theorem p196 (s:List UInt8) (c:UInt8):PureOK Tryz.prog 196 [.str s,.int .u8 c.toNat] (.int .i64 (Lib.indexByte s c)):=by
 refine PureOK.ofCalls ⟨_,Tryz.func196,by kernel_rfl⟩ fun w Ψ vs hw hl ha=>?_
 have h0:=ha 0 _ rfl;have h1:=ha 1 _ rfl;have hvs:=vs2 hl rfl;generalize vs.getD 0 undef=v at h0 hvs;generalize vs.getD 1 undef=v1 at h1 hvs;subst hvs;cases h0;cases h1;refine (Tryz.strings_IndexByte ⟨⟨s⟩⟩ c.toNat w).mono ?_
 rintro e w' ⟨rfl,rfl⟩
 refine ⟨_,rfl,?_,Below.refl _ _⟩
 have:(Int.toNat (c.toNat:Int)).toUInt8=c:=by simp
 rw[this];exact .int _ _
theorem p197 (s p:List UInt8):PureOK Tryz.prog 197 [.str s,.str p] (.bool (Lib.hasPrefix s p)):=by
 refine PureOK.ofCalls ⟨_,Tryz.func197,by kernel_rfl⟩ fun w Ψ vs hw hl ha=>?_
 have h0:=ha 0 _ rfl;have h1:=ha 1 _ rfl;have hvs:=vs2 hl rfl;generalize vs.getD 0 undef=v at h0 hvs;generalize vs.getD 1 undef=v1 at h1 hvs;subst hvs;cases h0;cases h1;refine (Tryz.strings_HasPrefix ⟨⟨s⟩⟩ ⟨⟨p⟩⟩ w).mono ?_
 rintro e w' ⟨rfl,rfl⟩
 exact ⟨_,rfl,.bool _,Below.refl _ _⟩
end Go.Proofs.YtkmnkiekmlcfdaaGreatDoor
