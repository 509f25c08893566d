import Derived.Test.YtdkkaldimefljaaGreatDoorA10
import Derived.Test.YtdkkaldimefljaaGreatDoorProg
set_option linter.all false
noncomputable section
namespace Go.Proofs.YtdkkaldimefljaaGreatDoor
open Go.AM
def tyTab:List (List UInt8×TyD):=[
 ([116,114,101,101],.mk [45,62] [.mk [76,105,115,116] [.mk [73,110,116] []],.mk [84,114,101,101] [.mk [73,110,116] []]]),
 ([116,108,105,115,116],.mk [45,62] [.mk [84,114,101,101] [.mk [39,97] []],.mk [76,105,115,116] [.mk [39,97] []]]),
 ([116,109,101,109,98,101,114],.mk [45,62] [.mk [73,110,116] [],.mk [45,62] [.mk [84,114,101,101] [.mk [73,110,116] []],.mk [66,111,111,108] []]]),
 ([116,115,105,122,101],.mk [45,62] [.mk [84,114,101,101] [.mk [39,97] []],.mk [73,110,116] []]),
 ([108,101,110,103,116,104],.mk [45,62] [.mk [76,105,115,116] [.mk [39,97] []],.mk [73,110,116] []]),
 ([116,105,110,115,101,114,116],.mk [45,62] [.mk [73,110,116] [],.mk [45,62] [.mk [84,114,101,101] [.mk [73,110,116] []],.mk [84,114,101,101] [.mk [73,110,116] []]]]),
 ([116,100,101,112,116,104],.mk [45,62] [.mk [84,114,101,101] [.mk [39,97] []],.mk [73,110,116] []]),
 ([105,116,101,109,115],.mk [45,62] [.mk [76,105,115,116] [.mk [73,110,116] []],.mk [73,110,116,115] []]),
 ([108,105,115,116],.mk [45,62] [.mk [73,110,116,115] [],.mk [76,105,115,116] [.mk [73,110,116] []]]),
 ([97,112,112,101,110,100],.mk [45,62] [.mk [76,105,115,116] [.mk [39,97] []],.mk [45,62] [.mk [76,105,115,116] [.mk [39,97] []],.mk [76,105,115,116] [.mk [39,97] []]]]),
 ([114,101,118,101,114,115,101],.mk [45,62] [.mk [76,105,115,116] [.mk [39,97] []],.mk [76,105,115,116] [.mk [39,97] []]]),
 ([116,97,107,101],.mk [45,62] [.mk [73,110,116] [],.mk [45,62] [.mk [76,105,115,116] [.mk [39,97] []],.mk [76,105,115,116] [.mk [39,97] []]]]),
 ([100,114,111,112],.mk [45,62] [.mk [73,110,116] [],.mk [45,62] [.mk [76,105,115,116] [.mk [39,97] []],.mk [76,105,115,116] [.mk [39,97] []]]]),
 ([99,111,110,99,97,116],.mk [45,62] [.mk [76,105,115,116] [.mk [76,105,115,116] [.mk [39,97] []]],.mk [76,105,115,116] [.mk [39,97] []]]),
 ([122,105,112],.mk [45,62] [.mk [76,105,115,116] [.mk [39,97] []],.mk [45,62] [.mk [76,105,115,116] [.mk [39,98] []],.mk [76,105,115,116] [.mk [44] [.mk [39,97] [],.mk [39,98] []]]]]),
 ([117,110,122,105,112],.mk [45,62] [.mk [76,105,115,116] [.mk [44] [.mk [39,97] [],.mk [39,98] []]],.mk [44] [.mk [76,105,115,116] [.mk [39,97] []],.mk [76,105,115,116] [.mk [39,98] []]]])]
def wG(s:List UInt8):Option TyD:=(tyTab.find? λp=>p.1==s).map (·.2)
def xY:List (List UInt8):=[[84,114,117,101],[70,97,108,115,101],[78,105,108],[67,111,110,115],[76,101,97,102],[78,111,100,101],[73,116,101,109],[69,110,100]]
class Aps where
 ap:List Slot->Option (Option ARes)
 kd:List UInt8->Int
 con:∀c∈xY,kd c=3
 ne:∀c,kd c=3->c≠[]/\c≠[44]
def kC[Aps](s:List UInt8):Bool:=Aps.kd s==3
def jU[Aps]:dY:=λf args =>
 bif Nat.beq f 18 then Aps.ap args
 else bif Nat.beq f 6 then(match args with
  |[]=>some (some (.ret (.val (.bool true))))
  |_=>some none)
 else bif Nat.beq f 36 then(match args with
  |[.val (.str s)]=>some ((wG s).map λt=>.ret (.tup [t.enc,.bool true]))
  |_=>some none)
 else bif Nat.beq f 41 then(match args with
  |[.val (.str s)]=>some ((wG s).map λ_=>.ret (.val (.bool true)))
  |_=>some none)
 else bif Nat.beq f 157 then(match args with
  |[.val (.str s)]=>some (some (.ret (.val (.int .i64 (Aps.kd s)))))
  |_=>some none)
 else none
noncomputable abbrev CF[Aps]:aO:=DF Tryz.prog ans jU
noncomputable abbrev LP[Aps]:aP:=EH Tryz.prog ans jU
inductive VaD where
 |mk (con:List UInt8) (num:Int) (args:List VaD)
def VaD.con:VaD->List UInt8|.mk c _ _=>c
def VaD.num:VaD->Int|.mk _ n _=>n
def VaD.args:VaD->List VaD|.mk _ _ al=>al
mutual
def VaD.enc:VaD->AVal
 |.mk c n al=>.agg [.str c,.int .i64 n,.slice (VaD.encs al)]
def VaD.encs:List VaD->List AVal
 |[]=>[]
 |t::ts=>t.enc::VaD.encs ts
end
theorem VaD.encs_eq(l:List VaD):VaD.encs l=l.map VaD.enc:=by
 induction l with
 |nil=>simp[VaD.encs]
 |cons t ts ih=>simp[VaD.encs,ih]
theorem VaD.enc_mk(c:List UInt8)(n:Int)(al:List VaD):(VaD.mk c n al).enc=.agg [.str c,.int .i64 n,.slice (al.map VaD.enc)]:=by simp[VaD.enc,VaD.encs_eq]
theorem VaD.enc_eq(t:VaD):t.enc=.agg [.str t.con,.int .i64 t.num,.slice (t.args.map VaD.enc)]:=by cases t;exact VaD.enc_mk _ _ _
mutual
def VaD.size:VaD->Nat
 |.mk c _ al=>c.length+1+VaD.sizes al
def VaD.sizes:List VaD->Nat
 |[]=>0
 |t::ts=>t.size+1+VaD.sizes ts
end
theorem VaD.sizes_len(l:List VaD):l.length<=VaD.sizes l:=by
 induction l with
 |nil=>simp[VaD.sizes]
 |cons t ts ih=>simp only[VaD.sizes,Ay];omega
theorem VaD.sizes_mem{t:VaD}:∀{l:List VaD},t∈l->t.size<VaD.sizes l
 |x::l,h=>by
  simp only[VaD.sizes];rcases Bb.1 h with h|h
  ·subst h;omega
  ·have:=VaD.sizes_mem h;omega
theorem VaD.args_len(t:VaD):t.args.length<t.size:=by
 cases t;simp only[VaD.args,VaD.size];have:=VaD.sizes_len ‹_›;omega
theorem VaD.args_size{t a:VaD}(h:a∈t.args):a.size<t.size:=by
 cases t;simp only[VaD.args] at h;simp only[VaD.size];have:=VaD.sizes_mem h;omega
theorem VaD.ind{p:VaD->Prop}(h:∀t,(∀a∈t.args,p a)->p t):∀t,p t:=by
 have:∀n t,t.size<n->p t:=by
  intro n;induction n with
  |zero=>intro t ht;omega
  |succ n ih=>intro t ht;exact h t λa ha=>ih a (by have:=VaD.args_size ha;omega)
 exact λt=>this (t.size+1) t (by omega)
abbrev BE:Nat:=4294967296
theorem tN{α:Type}(enc:α->AVal)(pre ys:List α)(y:α):((pre++y::ys).map enc)[((pre.length:Nat):Int).toNat]?=some (enc y):=by simp
theorem Kz{α:Type}(pre ys:List α)(y:α):decide (((pre.length:Nat):Int)<((pre++y::ys).length:Nat))=true:=by simp;omega
theorem MV{α:Type}(l:List α):decide (((l.length:Nat):Int)<(l.length:Nat))=false:=by simp
theorem zI(n:Nat):decide (0<=((n:Nat):Int))=true:=by simp
theorem wI(n:Nat)(h:n<BE):IntKind.i64.wrap (((n:Nat):Int)+1)=((n+1:Nat):Int):=by
 simp only[BE] at h;rw[cZ (by omega) (by omega)];rfl
theorem wL{α:Type}(pre ys:List α)(y:α)(h:(pre++y::ys).length<BE):IntKind.i64.wrap (((pre.length:Nat):Int)+1)=((pre++[y]).length:Nat):=by
 rw[wI _ (by simp at h ⊢;omega)];simp
end Go.Proofs.YtdkkaldimefljaaGreatDoor
end
namespace Go.Proofs.YtdkkaldimefljaaGreatDoor
open Go.AM
theorem Rv:bA Tryz.prog 3=some 1:=by kernel_rfl
theorem ag3:bO Tryz.prog 3=some false:=by kernel_rfl
theorem ZV:zeroOf Tryz.prog 3=some (AVal.int IntKind.i64 0):=by kernel_rfl
theorem ZW:zeroCells Tryz.prog 3=some [Cell.val (AVal.int IntKind.i64 0)]:=by kernel_rfl
theorem Ze:bA Tryz.prog 9=some 1:=by kernel_rfl
theorem ag9:bO Tryz.prog 9=some false:=by kernel_rfl
theorem aRN:bA Tryz.prog 25=some 1:=by kernel_rfl
theorem aQg:bO Tryz.prog 25=some false:=by kernel_rfl
theorem aRI:aT Tryz.prog 25=some 27:=by kernel_rfl
theorem aT3:zeroCells Tryz.prog 25=some [Cell.own 3 []]:=by kernel_rfl
theorem aRO:bA Tryz.prog 27=some 3:=by kernel_rfl
theorem aQh:bO Tryz.prog 27=some true:=by kernel_rfl
theorem aT6:zeroOf Tryz.prog 27=some (AVal.agg [AVal.str [],AVal.int IntKind.i64 0,AVal.slice []]):=by kernel_rfl
theorem aT4:zeroCells Tryz.prog 27=some [Cell.val (AVal.str []),Cell.val (AVal.int IntKind.i64 0),Cell.own 3 []]:=by kernel_rfl
theorem aQO:aU Tryz.prog 27=48:=by kernel_rfl
theorem aRD:(([{ name:= "Con",type:=9,offset:=0,embedded:=false,tag:= "",pkgPath:= "",byteOffset:=0 },{ name:= "Num",type:=3,offset:=1,embedded:=false,tag:= "",pkgPath:= "",byteOffset:=16 },{ name:= "Args",type:=25,offset:=2,embedded:=false,tag:= "",pkgPath:= "",byteOffset:=24 }]:List Field).mapM λf=>(Tryz.prog.info? f.type).map λi=>(f.offset,i.size))=some [(0,1),(1,1),(2,1)]:=by kernel_rfl
theorem aRP:bA Tryz.prog 35=some 4:=by kernel_rfl
theorem aPD:bA Tryz.prog 42=some 1:=by kernel_rfl
theorem aNx:bO Tryz.prog 42=some false:=by kernel_rfl
theorem aP8:zeroCells Tryz.prog 42=some [Cell.val (AVal.int IntKind.i64 0)]:=by kernel_rfl
theorem aRQ:bA Tryz.prog 56=some 1:=by kernel_rfl
theorem aQi:bO Tryz.prog 56=some false:=by kernel_rfl
theorem aRJ:aT Tryz.prog 56=some 58:=by kernel_rfl
theorem aRR:bA Tryz.prog 58=some 2:=by kernel_rfl
theorem aQj:bO Tryz.prog 58=some true:=by kernel_rfl
theorem aT7:zeroOf Tryz.prog 58=some (AVal.agg [AVal.str [],AVal.slice []]):=by kernel_rfl
theorem aT5:zeroCells Tryz.prog 58=some [Cell.val (AVal.str []),Cell.own 2 []]:=by kernel_rfl
theorem aQP:aU Tryz.prog 58=40:=by kernel_rfl
theorem aRS:bA Tryz.prog 97=some 0:=by kernel_rfl
theorem aPv:bA Tryz.prog 176=some 1:=by kernel_rfl
theorem aNs:bO Tryz.prog 176=some false:=by kernel_rfl
theorem aPq:aT Tryz.prog 176=some 185:=by kernel_rfl
theorem aP4:zeroCells Tryz.prog 176=some [Cell.own 4 []]:=by kernel_rfl
theorem aPw:bA Tryz.prog 185=some 4:=by kernel_rfl
theorem aNt:bO Tryz.prog 185=some true:=by kernel_rfl
theorem aP9:zeroOf Tryz.prog 185=some (AVal.agg [AVal.int IntKind.i64 0,AVal.int IntKind.i64 0,AVal.str [],AVal.int IntKind.i64 0]):=by kernel_rfl
theorem aP5:zeroCells Tryz.prog 185=some [Cell.val (AVal.int IntKind.i64 0),Cell.val (AVal.int IntKind.i64 0),Cell.val (AVal.str []),Cell.val (AVal.int IntKind.i64 0)]:=by kernel_rfl
theorem aN9:aU Tryz.prog 185=40:=by kernel_rfl
theorem aPf:(([{ name:= "Kind",type:=3,offset:=0,embedded:=false,tag:= "",pkgPath:= "",byteOffset:=0 },{ name:= "Num",type:=3,offset:=1,embedded:=false,tag:= "",pkgPath:= "",byteOffset:=8 },{ name:= "Text",type:=9,offset:=2,embedded:=false,tag:= "",pkgPath:= "",byteOffset:=16 },{ name:= "At",type:=3,offset:=3,embedded:=false,tag:= "",pkgPath:= "",byteOffset:=32 }]:List Field).mapM λf=>(Tryz.prog.info? f.type).map λi=>(f.offset,i.size))=some [(0,1),(1,1),(2,1),(3,1)]:=by kernel_rfl
theorem aPx:bA Tryz.prog 275=some 1:=by kernel_rfl
theorem aNu:bO Tryz.prog 275=some false:=by kernel_rfl
theorem aPy:bA Tryz.prog 277=some 2:=by kernel_rfl
theorem aP6:zeroCells Tryz.prog 277=some [Cell.val (AVal.int IntKind.i64 0),Cell.val (AVal.int IntKind.i64 0)]:=by kernel_rfl
theorem aPg:(([{ name:= "at",type:=3,offset:=0,embedded:=false,tag:= "",pkgPath:= "restitch/lex",byteOffset:=0 },{ name:= "e",type:=42,offset:=1,embedded:=false,tag:= "",pkgPath:= "restitch/lex",byteOffset:=8 }]:List Field).mapM λf=>(Tryz.prog.info? f.type).map λi=>(f.offset,i.size))=some [(0,1),(1,1)]:=by kernel_rfl
theorem aPz:bA Tryz.prog 318=some 2:=by kernel_rfl
theorem aPA:bA Tryz.prog 319=some 1:=by kernel_rfl
theorem aNv:bO Tryz.prog 319=some false:=by kernel_rfl
theorem aPB:bA Tryz.prog 320=some 1:=by kernel_rfl
theorem aNw:bO Tryz.prog 320=some false:=by kernel_rfl
theorem aPr:aT Tryz.prog 320=some 333:=by kernel_rfl
theorem aPC:bA Tryz.prog 333=some 2:=by kernel_rfl
theorem aQa:zeroOf Tryz.prog 333=some (AVal.agg [AVal.int IntKind.i64 0,AVal.int IntKind.i64 0]):=by kernel_rfl
theorem aP7:zeroCells Tryz.prog 333=some [Cell.val (AVal.int IntKind.i64 0),Cell.val (AVal.int IntKind.i64 0)]:=by kernel_rfl
theorem aOa:aU Tryz.prog 333=16:=by kernel_rfl
theorem aPh:(([{ name:= "from",type:=3,offset:=0,embedded:=false,tag:= "",pkgPath:= "restitch/lex",byteOffset:=0 },{ name:= "to",type:=3,offset:=1,embedded:=false,tag:= "",pkgPath:= "restitch/lex",byteOffset:=8 }]:List Field).mapM λf=>(Tryz.prog.info? f.type).map λi=>(f.offset,i.size))=some [(0,1),(1,1)]:=by kernel_rfl
theorem aLk:AY Tryz.prog 27 0=some (0,9):=by kernel_rfl
theorem aLl:AY Tryz.prog 27 1=some (1,3):=by kernel_rfl
theorem aLm:AY Tryz.prog 27 2=some (2,25):=by kernel_rfl
theorem aLn:AY Tryz.prog 35 0=some (0,25):=by kernel_rfl
theorem aLo:AY Tryz.prog 35 1=some (1,25):=by kernel_rfl
theorem aLp:AY Tryz.prog 35 2=some (2,25):=by kernel_rfl
theorem aLq:AY Tryz.prog 35 3=some (3,3):=by kernel_rfl
theorem aLr:AY Tryz.prog 58 0=some (0,9):=by kernel_rfl
theorem aLs:AY Tryz.prog 58 1=some (1,56):=by kernel_rfl
theorem aHi:AY Tryz.prog 185 0=some (0,3):=by kernel_rfl
theorem aHj:AY Tryz.prog 185 2=some (2,9):=by kernel_rfl
theorem aHk:AY Tryz.prog 277 1=some (1,42):=by kernel_rfl
theorem aHl:AY Tryz.prog 318 0=some (0,9):=by kernel_rfl
theorem aHm:AY Tryz.prog 318 1=some (1,3):=by kernel_rfl
theorem aHn:AY Tryz.prog 322 0=some (0,318):=by kernel_rfl
theorem aHo:AY Tryz.prog 322 1=some (2,319):=by kernel_rfl
theorem aHp:AY Tryz.prog 322 2=some (3,320):=by kernel_rfl
theorem an4:ans 4=Ws:=by kernel_rfl
theorem an6:ans 6=Wr:=by kernel_rfl
theorem an8:ans 8=Wq:=by kernel_rfl
theorem aQk:ans 10=Xv:=by kernel_rfl
theorem aQl:ans 12=Xu:=by kernel_rfl
theorem aQm:ans 13=Xt:=by kernel_rfl
theorem pM:ans 18=Xq:=by kernel_rfl
theorem aQn:ans 22=Xp:=by kernel_rfl
theorem aQo:ans 23=Xo:=by kernel_rfl
theorem aQp:ans 24=Xn:=by kernel_rfl
theorem aQq:ans 25=Xm:=by kernel_rfl
theorem aQr:ans 26=Xl:=by kernel_rfl
theorem aQs:ans 29=Xk:=by kernel_rfl
theorem aQt:ans 38=Xj:=by kernel_rfl
theorem aQu:ans 39=Xi:=by kernel_rfl
theorem aQv:ans 40=Xh:=by kernel_rfl
theorem aQw:ans 42=Xf:=by kernel_rfl
theorem aQx:ans 43=Xd:=by kernel_rfl
theorem aQy:ans 44=Xc:=by kernel_rfl
theorem aQz:ans 45=YM:=by kernel_rfl
theorem aQA:ans 54=YL:=by kernel_rfl
theorem aQB:ans 56=YK:=by kernel_rfl
theorem aQC:ans 57=YJ:=by kernel_rfl
theorem aQD:ans 58=YI:=by kernel_rfl
theorem xg:ans 62=YH:=by kernel_rfl
theorem aQE:ans 67=YG:=by kernel_rfl
theorem aQF:ans 70=YF:=by kernel_rfl
theorem aQG:ans 71=YE:=by kernel_rfl
theorem aQH:ans 73=YD:=by kernel_rfl
theorem aQI:ans 74=YC:=by kernel_rfl
theorem aNz:ans 108=ZF:=by kernel_rfl
theorem aNA:ans 109=ZE:=by kernel_rfl
theorem aNB:ans 112=ZD:=by kernel_rfl
theorem aNC:ans 113=ZC:=by kernel_rfl
theorem aND:ans 114=ZB:=by kernel_rfl
theorem aNE:ans 115=ZA:=by kernel_rfl
theorem aNF:ans 118=Yz:=by kernel_rfl
theorem aNG:ans 157=Yy:=by kernel_rfl
theorem aNH:ans 159=ZP:=by kernel_rfl
theorem aNI:ans 160=ZO:=by kernel_rfl
theorem aNJ:ans 161=ZN:=by kernel_rfl
theorem mR:ans 207=ZM:=by kernel_rfl
theorem aNK:ans 270=ZL:=by kernel_rfl
theorem aNL:ans 271=ZK:=by kernel_rfl
theorem aNM:ans 272=ZJ:=by kernel_rfl
theorem aNN:ans 282=ZI:=by kernel_rfl
theorem aJr:ans 283=ZH:=by kernel_rfl
theorem aNO:ans 284=ZG:=by kernel_rfl
theorem aNP:ans 285=Ys:=by kernel_rfl
theorem aNQ:ans 286=Yr:=by kernel_rfl
theorem UQ:ans 287=Yq:=by kernel_rfl
theorem aNR:ans 288=Yp:=by kernel_rfl
theorem aNS:ans 289=Yo:=by kernel_rfl
theorem aNT:ans 290=Yn:=by kernel_rfl
theorem aNU:ans 291=Ym:=by kernel_rfl
theorem aNV:ans 292=Yl:=by kernel_rfl
theorem Yj:ans 293=Yk:=by kernel_rfl
attribute [go_sem] Ws Wr Wq Xv Xu Xt Xq Xp Xo Xn Xm Xl Xk aNn Xj Xi Xh aNo Xf Xd Xc YM YL YK YJ YI YH YG YF YE YD YC ZF ZE ZD ZC ZB ZA Yz Yy ZP ZO ZN ZM aJn aJo aJp ZL ZK ZJ ZI ZH ZG Ys Yr Yq Yp Yo Yn Ym Yl Yk
end Go.Proofs.YtdkkaldimefljaaGreatDoor
namespace Go.AM
section
variable {P:Program}{ans:FuncId->AK}{cf:aO}{lp:aP}{f:FuncId}
def Yh(P:Program)(an:AK)(ops:List Oper):Option Nat :=
 (nB ops).bind λse=>(aT P se.1).bind λe=>(bA P se.1).bind λs1=>(bA P e).bind λsz=>(zeroOf P e).bind λz=>(iD se.2.2).bind λzc=>(bO P e).bind λag=>(bO P se.1).bind λag1 =>
  aL (Nat.beq e se.2.1&&Nat.beq s1 1&&Nat.blt 0 sz&&ag&&!ag1&&Nat.beq z.cells.length sz&&clean z&&Nat.beq zc.cells.length sz&&clean zc&&Nat.ble (aU P e) 16384&&Nat.blt 0 (aU P e)&&Nat.ble sz 16777216&&Nat.blt 13 an.nt &&
    [8,9,10,11,12,13].all (λt=>!an.keep.contains t)) (some sz)
theorem aHU{an:AK}{ops:List Oper}{sz:Nat}(h:Yh P an ops=some sz){R:Type}(st:St)(K:bD->St->Option R):y5 P an ops st K=ee (tlook an.keep st.tm 2) (tlook an.keep st.tm 5) λi cs=>iG st.sto.objs[i]? λbs=>ed bs λEK xs =>
    aL (Nat.beq sz EK&&Nat.beq cs.length sz&&clean (.agg (cs.map Cell.get))&&Nat.ble (xs.length+1) room&&Nat.ble st.sto.lo i)
     (K .norm ⟨st.tm,{ st.sto with objs:=st.sto.objs.set i (.box [.own sz (xs++[.agg (cs.map Cell.get)])]) }⟩):=by
 unfold Yh at h;obtain⟨se,h1,h⟩:=aC h;obtain⟨e',h2,h⟩:=aC h;obtain⟨s1,h3,h⟩:=aC h;obtain⟨EK,h4,h⟩:=aC h;obtain⟨z,h5,h⟩:=aC h;obtain⟨zc,h6,h⟩:=aC h;obtain⟨ag,h7,h⟩:=aC h;obtain⟨ag1,h8,h⟩:=aC h;obtain⟨hg,h⟩:=aB h;obtain rfl:=Ap h;unfold y5;simp only[h1,h2,h3,h4,h5,h6,h7,h8,Ai];rw[oN (by exact hg)]
theorem aPE{R:Type}{id:Nat}{ops:Array Oper}{sz i:Nat}{tm:List Slot}{sto:AN}{cs:List Cell}{xs:List AVal}{K:bD->St->Option R}{r:R}(hm:yR (ans f) id=true)(hs:Yh P (ans f) ops.toList=some sz)
  (h2:tlook (ans f).keep tm 2=.val (.loc i 0)) (h5:tlook (ans f).keep tm 5=.box cs) (ho:sto.objs[i]?=some (.box [.own sz xs])) (hg:(Nat.beq sz sz&&Nat.beq cs.length sz&&clean (.agg (cs.map Cell.get))&&Nat.ble (xs.length+1) room&&Nat.ble sto.lo i)=true)
  (k:C7 (K .norm ⟨tm,⟨sto.objs.set i (.box [.own sz (xs++[.agg (cs.map Cell.get)])]),sto.lo⟩⟩) r):XK P ans cf lp f (.region id ops true) ⟨tm,sto⟩ K=some r:=by
 rw[xM hm,aHU hs];simp only[h2,h5,ee,ho,iG,ed];rw[oN (by exact hg)];exact tQ k
end
section
variable {P:Program}{ans:FuncId->AK}{B0:Nat}{cf:aO}{lp:aP}{pr:dY}
def eT(P:Program)(ans:FuncId->AK)(cf:aO)(lp:aP)(f:FuncId)(args:List Slot)(sto:AN):Option (ARes×AN) :=
 match P.funcs[f]? with
 |none=>none
 |some fn =>
  match fn.body with
  |none=>none
  |some c=>aL (Nat.beq fn.ntmps (ans f).nt&&Nat.ble args.length fn.ntmps) <| XK P ans cf lp f c ⟨(ans f).keep.map λt=>(args[t]?).getD .dead,sto⟩ λe st =>
   match e with
   |.norm=>finish P (ans f) fn sto.objs.length st
   |.ret=>finish P (ans f) fn sto.objs.length st
   |.pan v=>some (.pan v,st.sto)
   |.exit _=>none
theorem qj(BK:kZ P ans B0 cf)(CC:fm P ans B0 lp)(EZ:kN P ans cf){f:FuncId}{args:List Slot}{sto:AN}{res:ARes}{AL:AN}(e:eT P ans cf lp f args sto=some (res,AL)) :
  (∃F,P.funcs[f]?=some F/\F.body.isSome=true)/\∀w Z J ow vs,dW ans B0 w Z J ow args vs sto->∀cs,Leave P ans B0 w Z J ow sto f cs (lone (Frame.enter P f vs .normal) cs w) res AL:=by
 simp only[eT] at e
 split at e
 ·cases e
 rename_i fn GC
 split at e
 ·cases e
 rename_i c DN;obtain⟨hg,e⟩:=aB e;simp only[Ac] at hg;have Jk:fn.ntmps=(ans f).nt:=Aa hg.1;have EC:args.length<=(ans f).nt:=by rw[<-Jk];exact Ah hg.2
 refine⟨⟨fn,GC,by simp[DN]⟩,λw Z J ow vs BM cs=>?_⟩
 let b:Frame:={ (default:Frame) with fn:=f,kind:=.normal,roundOf:=none }
 have henter:Frame.enter P f vs .normal=b.atR ⟨vs++Array.replicate ((ans f).nt-vs.size) undef,[]⟩ [.code c]:=by
  simp[Frame.enter,Frame.atR,GC,DN,b,Jk]
 rw[henter];have Lc:=BM.objs.1;obtain⟨ex,BF,he,w1,Z1,J1,BX,BO,G6,a1,a2,a3,a4,a5,a6⟩:=mQ BK CC EZ c (b:=b) (cs:=cs) (items:=[]) (fid:=f) (B1:=w.heap.size) rfl (.inl rfl) (nH (P:=P) BM EC) (Marks.nil w ow w.heap.size) (Ae _) e;have AW:=BM.lo;have hlen:sto.objs.length<=BF.sto.objs.length:=a5.len
 have hret:At P ans f B0 w1 Z1 J1 BX BF BO->finish P (ans f) fn sto.objs.length BF=some (res,AL)->(∃k,Steps P (lone (b.atR ⟨vs++Array.replicate ((ans f).nt-vs.size) undef,[]⟩ [.code c]) cs w) (lone { b.atR ⟨BO,G6⟩ k with mode:=.returning } cs w1)) ->
   Leave P ans B0 w Z J ow sto f cs (lone (b.atR ⟨vs++Array.replicate ((ans f).nt-vs.size) undef,[]⟩ [.code c]) cs w) res AL:=λhA IB ⟨k,hs⟩=>by
  obtain⟨w2,p1,p2,p3,p4,p5,p6⟩:=iS (P:=P) (cs:=cs) (fr:={ b.atR ⟨BO,G6⟩ k with mode:=.returning }) a2 (by simp) rfl;have NZ:=hA.kept p2 p3;obtain⟨s,v,J2,CJ,q1,q2,q3,q4,q5,q6,Um,q7,q8,q9,Un⟩:=dm NZ hlen IB;subst q1;refine⟨w2,Z1,J2,CJ,_,(a3.kept (Ae _) p2 p3 p4 p5 p6).trans q6,nX a4 Lc.symm Un,NZ.rel.wsat,q5,λb hb=>?_,⟨q7.trans a5.lo,q8,λi hi=>(q9 i (by omega)).trans (a5.keep i hi)⟩,hs.trans p1,rfl,q2,v,q4,rfl,rfl,rfl,fn,GC,q3⟩;exact NZ.rel.lt b (Um b hb)
 cases ex with
 |norm=>exact hret a1 he ⟨[],Steps.trans a6 (.one (stepR_end rfl))⟩
 |ret=>obtain⟨k,hk⟩:=a6;exact hret a1 he ⟨_,hk.trans (.one (stepR_ret rfl))⟩
 |exit id=>cases he
 |pan x =>
  simp only[Ak,Bp] at he;obtain⟨rfl,rfl⟩:=he;obtain⟨v,k,hv,hs⟩:=a6;obtain⟨w2,p1,p2,p3,p4,p5,p6⟩:=iS (P:=P) (cs:=cs) (fr:={ b.atR ⟨BO,G6⟩ k with mode:=.panicking [{ v,recovered:=false }] }) a2 (by simp) rfl;have IZ:=Rest.kept a1 p2 p3;exact⟨w2,Z1,J1,BX,_,a3.kept (Ae _) p2 p3 p4 p5 p6,a4,IZ.wsat,IZ.objs,IZ.lt,a5,hs.trans p1,rfl,v,hv,rfl,rfl,fn,GC⟩
theorem gw(E:Env P ans B0 pr):kZ P ans B0 (DF P ans pr) where
 fn:=λf args sto res AL e=>by
  obtain⟨n,hn⟩:=eK.1 e;exact(mK E n).1.fn _ _ _ _ _ hn
 yld:=λi args sto res AL e=>by
  obtain⟨n,hn⟩:=eK.1 e;exact(mK E n).1.yld _ _ _ _ _ hn
theorem aEZ(E:Env P ans B0 pr):fm P ans B0 (EH P ans pr):=λfid c st e BF h=>by
 obtain⟨n,hn⟩:=nS.1 h;exact(mK E n).2 fid c st e BF hn
theorem qv:iK ans (DF P ans pr):=λf args h=>by
 cases hp:pr f args with
 |none=>exact⟨none,by simp,λsto=>by rw[sZ];simp[cE,hp,h]⟩
 |some o =>
  refine⟨o.bind zN,λs hs=>?_,λsto=>by rw[sZ];simp[cE,hp]⟩;obtain⟨r,_,hs⟩:=aC hs;cases r with
  |pan v=>cases hs
  |ret s'=>obtain⟨hg,hs⟩:=aB hs;cases hs;exact hg
theorem aBV(E:∀B0,Env P ans B0 pr){f:FuncId}{args:List Slot}{res:AVal}(e:eT P ans (DF P ans pr) (EH P ans pr) f args ⟨[],0⟩=some (.ret (.val res),⟨[],0⟩)) :
  (∃F,P.funcs[f]?=some F/\F.body.isSome=true)/\∀(w:World)(Z:HT)(vs:Array Value),dW ans w.heap.size w Z [] (λ_=>none) args vs ⟨[],0⟩->∀c cs,∃w' Z' v,Fr w Z (λ_=>none) w' Z' (λ_=>none)/\WSat Z' w'/\VRel Z' [] res v/\Steps P (lone (Frame.enter P f vs .normal) (c::cs) w) (lone (c.finish v) cs w'):=by
 have key:=λB0=>qj (gw (E B0)) (aEZ (E B0)) ((E B0).drawn _ qv) e
 exact⟨(key 0).1,λw Z vs hp c cs=>da ((key w.heap.size).2 w Z [] (λ_=>none) vs hp (c::cs)).post⟩
theorem UE{fn:Func}{f:FuncId}{args:List Slot}{c:Code}{tm:List Slot}{sto:AN}{x:ARes×AN}(h2:P.funcs[f]?=some fn)(hb:fn.body=some c)(hg:(Nat.beq fn.ntmps (ans f).nt&&Nat.ble args.length fn.ntmps)=true)(ht:((ans f).keep.map λt=>(args[t]?).getD .dead)=tm)
  (k:XK P ans cf lp f c ⟨tm,sto⟩ (KF P ans f fn sto.objs.length)=some x):eT P ans cf lp f args sto=some x:=by
 subst ht;simp only[eT,h2,hb,hg,aL,Ba];exact k
theorem PureOK.ofBody(E:∀B0,Env P ans B0 pr){f:FuncId}{args:List AVal}{res:AVal}(e:eT P ans (DF P ans pr) (EH P ans pr) f (args.map .val) ⟨[],0⟩=some (.ret (.val res),⟨[],0⟩)):PureOK P f args res:=by
 have key:=aBV E e;refine⟨key.1,λw Z vs hw hl ha c cs=>key.2 w Z vs (lM hw (by simpa using hl) (λs hs=>?_) (λi s hs=>?_)) c cs⟩
 ·obtain⟨a,_,rfl⟩:=Cu.1 hs;rfl
 ·rw[Ao,Al] at hs
  obtain⟨a,I9,rfl⟩:=hs;exact .val _ _ (ha i a I9)
end
end Go.AM
