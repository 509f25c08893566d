import Derived.Test.YtoiocfngjchdiaaGreatDoorA09
import Derived.WalkKit
set_option linter.all false
namespace Go.Proofs.YtoiocfngjchdiaaGreatDoor
open Go.AM
theorem sz1:aU Tryz.prog 1=some 1:=by kernel_rfl
theorem ag1:aW Tryz.prog 1=some false:=by kernel_rfl
theorem sz3:aU Tryz.prog 3=some 1:=by kernel_rfl
theorem ag3:aW Tryz.prog 3=some false:=by kernel_rfl
theorem zo3:zeroOf Tryz.prog 3=some (ae.int IntKind.i64 0):=by kernel_rfl
theorem zc3:zeroCells Tryz.prog 3=some [Cell.val (ae.int IntKind.i64 0)]:=by kernel_rfl
theorem by3:bC Tryz.prog 3=8:=by kernel_rfl
theorem sz9:aU Tryz.prog 9=some 1:=by kernel_rfl
theorem ag9:aW Tryz.prog 9=some false:=by kernel_rfl
theorem zo9:zeroOf Tryz.prog 9=some (ae.str []):=by kernel_rfl
theorem aXl:aU Tryz.prog 22=some 1:=by kernel_rfl
theorem aUM:aW Tryz.prog 22=some false:=by kernel_rfl
theorem aXb:aQ Tryz.prog 22=some 30:=by kernel_rfl
theorem aXm:aU Tryz.prog 24=some 1:=by kernel_rfl
theorem aUN:aW Tryz.prog 24=some false:=by kernel_rfl
theorem aXc:aQ Tryz.prog 24=some 76:=by kernel_rfl
theorem aXn:aU Tryz.prog 26=some 1:=by kernel_rfl
theorem aUO:aW Tryz.prog 26=some true:=by kernel_rfl
theorem aXR:zeroCells Tryz.prog 26=some [Cell.own 14 []]:=by kernel_rfl
theorem aXo:aU Tryz.prog 30=some 3:=by kernel_rfl
theorem aUP:aW Tryz.prog 30=some true:=by kernel_rfl
theorem aX2:zeroOf Tryz.prog 30=some (ae.agg [ae.str [],ae.int IntKind.i64 0,ae.slice []]):=by kernel_rfl
theorem aXS:zeroCells Tryz.prog 30=some [Cell.val (ae.str []),Cell.val (ae.int IntKind.i64 0),Cell.own 3 []]:=by kernel_rfl
theorem aVO:bC Tryz.prog 30=48:=by kernel_rfl
theorem aWX:(([{ name:= "Con",type:=9,offset:=0,embedded:=false,tag:= "",pkgPath:= "",byteOffset:=0 },{ name:= "Num",type:=3,offset:=1,embedded:=false,tag:= "",pkgPath:= "",byteOffset:=16 },{ name:= "Args",type:=22,offset:=2,embedded:=false,tag:= "",pkgPath:= "",byteOffset:=24 }]:List Field).mapM λf=>(Tryz.prog.info? f.type).map λi=>(f.offset,i.size))=some [(0,1),(1,1),(2,1)]:=by kernel_rfl
theorem aXp:aU Tryz.prog 31=some 1:=by kernel_rfl
theorem aUQ:aW Tryz.prog 31=some false:=by kernel_rfl
theorem aXT:zeroCells Tryz.prog 31=some [Cell.val (ae.int IntKind.i64 0)]:=by kernel_rfl
theorem aXq:aU Tryz.prog 34=some 1:=by kernel_rfl
theorem aUR:aW Tryz.prog 34=some false:=by kernel_rfl
theorem aXd:aQ Tryz.prog 34=some 41:=by kernel_rfl
theorem aXr:aU Tryz.prog 36=some 2:=by kernel_rfl
theorem aUS:aW Tryz.prog 36=some true:=by kernel_rfl
theorem aXU:zeroCells Tryz.prog 36=some [Cell.own 4 [],Cell.val (ae.int IntKind.i64 0)]:=by kernel_rfl
theorem aXs:aU Tryz.prog 41=some 4:=by kernel_rfl
theorem aX3:zeroOf Tryz.prog 41=some (ae.agg [ae.str [],ae.str [],ae.int IntKind.i64 0,ae.slice []]):=by kernel_rfl
theorem aXV:zeroCells Tryz.prog 41=some [Cell.val (ae.str []),Cell.val (ae.str []),Cell.val (ae.int IntKind.i64 0),Cell.own 3 []]:=by kernel_rfl
theorem aVP:bC Tryz.prog 41=64:=by kernel_rfl
theorem aWY:(([{ name:= "Name",type:=9,offset:=0,embedded:=false,tag:= "",pkgPath:= "",byteOffset:=0 },{ name:= "Value",type:=30,offset:=1,embedded:=false,tag:= "",pkgPath:= "",byteOffset:=16 }]:List Field).mapM λf=>(Tryz.prog.info? f.type).map λi=>(f.offset,i.size))=some [(0,1),(1,3)]:=by kernel_rfl
theorem aXe:aQ Tryz.prog 43=some 3:=by kernel_rfl
theorem aXt:aU Tryz.prog 57=some 1:=by kernel_rfl
theorem aUT:aW Tryz.prog 57=some false:=by kernel_rfl
theorem aXf:aQ Tryz.prog 57=some 9:=by kernel_rfl
theorem aXu:aU Tryz.prog 58=some 1:=by kernel_rfl
theorem aUU:aW Tryz.prog 58=some false:=by kernel_rfl
theorem aXg:aQ Tryz.prog 58=some 60:=by kernel_rfl
theorem aXv:aU Tryz.prog 60=some 2:=by kernel_rfl
theorem aUV:aW Tryz.prog 60=some true:=by kernel_rfl
theorem aX4:zeroOf Tryz.prog 60=some (ae.agg [ae.str [],ae.slice []]):=by kernel_rfl
theorem aXW:zeroCells Tryz.prog 60=some [Cell.val (ae.str []),Cell.own 2 []]:=by kernel_rfl
theorem aVQ:bC Tryz.prog 60=40:=by kernel_rfl
theorem aXw:aU Tryz.prog 65=some 1:=by kernel_rfl
theorem aUW:aW Tryz.prog 65=some false:=by kernel_rfl
theorem aXh:aQ Tryz.prog 65=some 68:=by kernel_rfl
theorem aXx:aU Tryz.prog 66=some 1:=by kernel_rfl
theorem aUX:aW Tryz.prog 66=some false:=by kernel_rfl
theorem aXy:aU Tryz.prog 68=some 6:=by kernel_rfl
theorem aUY:aW Tryz.prog 68=some true:=by kernel_rfl
theorem aX5:zeroOf Tryz.prog 68=some (ae.agg [ae.int IntKind.i64 0,ae.int IntKind.i64 0,ae.str [],ae.str [],ae.slice [],ae.slice []]):=by kernel_rfl
theorem aXX:zeroCells Tryz.prog 68=some [Cell.val (ae.int IntKind.i64 0),Cell.val (ae.int IntKind.i64 0),Cell.val (ae.str []),Cell.val (ae.str []),Cell.own 6 [],Cell.own 3 []]:=by kernel_rfl
theorem aVR:bC Tryz.prog 68=96:=by kernel_rfl
theorem aWZ:(([{ name:= "Kind",type:=3,offset:=0,embedded:=false,tag:= "",pkgPath:= "",byteOffset:=0 },{ name:= "Num",type:=3,offset:=1,embedded:=false,tag:= "",pkgPath:= "",byteOffset:=8 },{ name:= "Name",type:=9,offset:=2,embedded:=false,tag:= "",pkgPath:= "",byteOffset:=16 },{ name:= "Arg",type:=9,offset:=3,embedded:=false,tag:= "",pkgPath:= "",byteOffset:=32 },{ name:= "Args",type:=65,offset:=4,embedded:=false,tag:= "",pkgPath:= "",byteOffset:=48 },{ name:= "Pats",type:=66,offset:=5,embedded:=false,tag:= "",pkgPath:= "",byteOffset:=72 }]:List Field).mapM λf=>(Tryz.prog.info? f.type).map λi=>(f.offset,i.size))=some [(0,1),(1,1),(2,1),(3,1),(4,1),(5,1)]:=by kernel_rfl
theorem aXz:aU Tryz.prog 71=some 1:=by kernel_rfl
theorem aUZ:aW Tryz.prog 71=some false:=by kernel_rfl
theorem aXA:aU Tryz.prog 73=some 3:=by kernel_rfl
theorem aU0:aW Tryz.prog 73=some true:=by kernel_rfl
theorem aXB:aU Tryz.prog 74=some 1:=by kernel_rfl
theorem aU1:aW Tryz.prog 74=some false:=by kernel_rfl
theorem aXC:aU Tryz.prog 76=some 14:=by kernel_rfl
theorem aU2:aW Tryz.prog 76=some true:=by kernel_rfl
theorem aX6:zeroOf Tryz.prog 76=some (ae.agg [ae.int IntKind.i64 0,ae.str [],ae.slice [],ae.slice [],ae.str [],ae.str [],ae.slice [],ae.slice [],ae.int IntKind.i64 0,ae.int IntKind.i64 0,ae.str [],ae.str [],ae.slice [],ae.slice []]):=by kernel_rfl
theorem aXY:zeroCells Tryz.prog 76=some [Cell.val (ae.int IntKind.i64 0),Cell.val (ae.str []),Cell.own 1 [],Cell.own 2 [],Cell.val (ae.str []),Cell.val (ae.str []),Cell.own 2 [],Cell.own 8 [],Cell.val (ae.int IntKind.i64 0),Cell.val (ae.int IntKind.i64 0),Cell.val (ae.str []),Cell.val (ae.str []),Cell.own 6 [],Cell.own 3 []]:=by kernel_rfl
theorem aVS:bC Tryz.prog 76=248:=by kernel_rfl
theorem aW0:(([{ name:= "Kind",type:=3,offset:=0,embedded:=false,tag:= "",pkgPath:= "",byteOffset:=0 },{ name:= "Data",type:=73,offset:=1,embedded:=false,tag:= "",pkgPath:= "",byteOffset:=8 },{ name:= "Name",type:=9,offset:=4,embedded:=false,tag:= "",pkgPath:= "",byteOffset:=72 },{ name:= "Type",type:=60,offset:=5,embedded:=false,tag:= "",pkgPath:= "",byteOffset:=88 },{ name:= "Funs",type:=74,offset:=7,embedded:=false,tag:= "",pkgPath:= "",byteOffset:=128 },{ name:= "Body",type:=68,offset:=8,embedded:=false,tag:= "",pkgPath:= "",byteOffset:=152 }]:List Field).mapM λf=>(Tryz.prog.info? f.type).map λi=>(f.offset,i.size))=some [(0,1),(1,3),(4,1),(5,2),(7,1),(8,6)]:=by kernel_rfl
theorem aXD:aU Tryz.prog 87=some 1:=by kernel_rfl
theorem aU3:aW Tryz.prog 87=some false:=by kernel_rfl
theorem aXZ:zeroCells Tryz.prog 87=some [Cell.val ae.cW]:=by kernel_rfl
theorem aXE:aU Tryz.prog 89=some 2:=by kernel_rfl
theorem aU4:aW Tryz.prog 89=some true:=by kernel_rfl
theorem aX0:zeroCells Tryz.prog 89=some [Cell.val (ae.int IntKind.i64 0),Cell.val (ae.int IntKind.i64 0)]:=by kernel_rfl
theorem aW1:(([{ name:= "e",type:=31,offset:=0,embedded:=false,tag:= "",pkgPath:= "restitch/eval",byteOffset:=0 },{ name:= "at",type:=3,offset:=1,embedded:=false,tag:= "",pkgPath:= "restitch/eval",byteOffset:=8 }]:List Field).mapM λf=>(Tryz.prog.info? f.type).map λi=>(f.offset,i.size))=some [(0,1),(1,1)]:=by kernel_rfl
theorem aXF:aU Tryz.prog 91=some 1:=by kernel_rfl
theorem aX1:zeroCells Tryz.prog 91=some [Cell.val ae.kQ]:=by kernel_rfl
theorem aW2:(([{ name:= "step",type:=1,offset:=0,embedded:=false,tag:= "",pkgPath:= "restitch/eval",byteOffset:=0 }]:List Field).mapM λf=>(Tryz.prog.info? f.type).map λi=>(f.offset,i.size))=some [(0,1)]:=by kernel_rfl
theorem aTv:aU Tryz.prog 103=some 1:=by kernel_rfl
theorem aQm:aW Tryz.prog 103=some false:=by kernel_rfl
theorem aTw:aU Tryz.prog 104=some 1:=by kernel_rfl
theorem aQn:aW Tryz.prog 104=some false:=by kernel_rfl
theorem aTx:aU Tryz.prog 109=some 0:=by kernel_rfl
theorem aTy:aU Tryz.prog 132=some 1:=by kernel_rfl
theorem aQo:aW Tryz.prog 132=some false:=by kernel_rfl
theorem aTz:aU Tryz.prog 136=some 1:=by kernel_rfl
theorem aQp:aW Tryz.prog 136=some false:=by kernel_rfl
theorem aUA:zeroOf Tryz.prog 136=some ae.fh:=by kernel_rfl
theorem aRQ:bC Tryz.prog 136=16:=by kernel_rfl
theorem aTs:aQ Tryz.prog 138=some 139:=by kernel_rfl
theorem aTA:aU Tryz.prog 139=some 1:=by kernel_rfl
theorem aQq:aW Tryz.prog 139=some false:=by kernel_rfl
theorem aUB:zeroOf Tryz.prog 139=some ae.cW:=by kernel_rfl
theorem aRR:bC Tryz.prog 139=8:=by kernel_rfl
theorem aTB:aU Tryz.prog 141=some 8:=by kernel_rfl
theorem aQr:aW Tryz.prog 141=some true:=by kernel_rfl
theorem aUr:zeroCells Tryz.prog 141=some [Cell.val (ae.str []),Cell.val (ae.str []),Cell.val (ae.int IntKind.i64 0),Cell.val (ae.int IntKind.i64 0),Cell.val (ae.str []),Cell.val (ae.str []),Cell.own 6 [],Cell.own 3 []]:=by kernel_rfl
theorem aTC:aU Tryz.prog 142=some 1:=by kernel_rfl
theorem aQs:aW Tryz.prog 142=some false:=by kernel_rfl
theorem aTD:aU Tryz.prog 144=some 3:=by kernel_rfl
theorem aUs:zeroCells Tryz.prog 144=some [Cell.val (ae.str []),Cell.val ae.cW,Cell.val ae.cW]:=by kernel_rfl
theorem aTd:(([{ name:= "arg",type:=9,offset:=0,embedded:=false,tag:= "",pkgPath:= "restitch/eval",byteOffset:=0 },{ name:= "body",type:=142,offset:=1,embedded:=false,tag:= "",pkgPath:= "restitch/eval",byteOffset:=16 },{ name:= "env",type:=132,offset:=2,embedded:=false,tag:= "",pkgPath:= "restitch/eval",byteOffset:=24 }]:List Field).mapM λf=>(Tryz.prog.info? f.type).map λi=>(f.offset,i.size))=some [(0,1),(1,1),(2,1)]:=by kernel_rfl
theorem aTE:aU Tryz.prog 163=some 1:=by kernel_rfl
theorem aQt:aW Tryz.prog 163=some false:=by kernel_rfl
theorem aTF:aU Tryz.prog 165=some 1:=by kernel_rfl
theorem aUt:zeroCells Tryz.prog 165=some [Cell.val (ae.int IntKind.i64 0)]:=by kernel_rfl
theorem aTe:(([{ name:= "most",type:=3,offset:=0,embedded:=false,tag:= "",pkgPath:= "restitch/syntax",byteOffset:=0 }]:List Field).mapM λf=>(Tryz.prog.info? f.type).map λi=>(f.offset,i.size))=some [(0,1)]:=by kernel_rfl
theorem aTG:aU Tryz.prog 166=some 1:=by kernel_rfl
theorem aQu:aW Tryz.prog 166=some false:=by kernel_rfl
theorem aTH:aU Tryz.prog 168=some 2:=by kernel_rfl
theorem aUu:zeroCells Tryz.prog 168=some [Cell.val (ae.int IntKind.i64 0),Cell.val (ae.int IntKind.i64 0)]:=by kernel_rfl
theorem aTf:(([{ name:= "size",type:=3,offset:=0,embedded:=false,tag:= "",pkgPath:= "restitch/syntax",byteOffset:=0 },{ name:= "depth",type:=3,offset:=1,embedded:=false,tag:= "",pkgPath:= "restitch/syntax",byteOffset:=8 }]:List Field).mapM λf=>(Tryz.prog.info? f.type).map λi=>(f.offset,i.size))=some [(0,1),(1,1)]:=by kernel_rfl
theorem aTI:aU Tryz.prog 170=some 1:=by kernel_rfl
theorem aQv:aW Tryz.prog 170=some false:=by kernel_rfl
theorem aTJ:aU Tryz.prog 173=some 1:=by kernel_rfl
theorem aQw:aW Tryz.prog 173=some false:=by kernel_rfl
theorem aTK:aU Tryz.prog 175=some 1:=by kernel_rfl
theorem aQx:aW Tryz.prog 175=some false:=by kernel_rfl
theorem aTL:aU Tryz.prog 209=some 3:=by kernel_rfl
theorem aUv:zeroCells Tryz.prog 209=some [Cell.val (ae.str []),Cell.val ae.fh,Cell.val ae.cW]:=by kernel_rfl
theorem aTg:(([{ name:= "name",type:=9,offset:=0,embedded:=false,tag:= "",pkgPath:= "restitch/eval",byteOffset:=0 },{ name:= "item",type:=136,offset:=1,embedded:=false,tag:= "",pkgPath:= "restitch/eval",byteOffset:=16 },{ name:= "outer",type:=132,offset:=2,embedded:=false,tag:= "",pkgPath:= "restitch/eval",byteOffset:=32 }]:List Field).mapM λf=>(Tryz.prog.info? f.type).map λi=>(f.offset,i.size))=some [(0,1),(1,1),(2,1)]:=by kernel_rfl
theorem aUC:zeroOf Tryz.prog 210=some (ae.int IntKind.i64 0):=by kernel_rfl
theorem aUD:zeroOf Tryz.prog 211=some ae.cW:=by kernel_rfl
theorem aTM:aU Tryz.prog 212=some 1:=by kernel_rfl
theorem aQy:aW Tryz.prog 212=some false:=by kernel_rfl
theorem aTt:aQ Tryz.prog 212=some 136:=by kernel_rfl
theorem aTN:aU Tryz.prog 214=some 2:=by kernel_rfl
theorem aUw:zeroCells Tryz.prog 214=some [Cell.val (ae.str []),Cell.own 1 []]:=by kernel_rfl
theorem aTh:(([{ name:= "con",type:=9,offset:=0,embedded:=false,tag:= "",pkgPath:= "restitch/eval",byteOffset:=0 },{ name:= "args",type:=212,offset:=1,embedded:=false,tag:= "",pkgPath:= "restitch/eval",byteOffset:=16 }]:List Field).mapM λf=>(Tryz.prog.info? f.type).map λi=>(f.offset,i.size))=some [(0,1),(1,1)]:=by kernel_rfl
theorem aTO:aU Tryz.prog 242=some 3:=by kernel_rfl
theorem aQz:aW Tryz.prog 242=some true:=by kernel_rfl
theorem aUx:zeroCells Tryz.prog 242=some [Cell.val (ae.int IntKind.i64 0),Cell.val (ae.str []),Cell.own 3 []]:=by kernel_rfl
theorem aTP:aU Tryz.prog 246=some 1:=by kernel_rfl
theorem aQA:aW Tryz.prog 246=some false:=by kernel_rfl
theorem aTQ:aU Tryz.prog 249=some 2:=by kernel_rfl
theorem aQB:aW Tryz.prog 249=some true:=by kernel_rfl
theorem aUy:zeroCells Tryz.prog 249=some [Cell.val (ae.str []),Cell.own 2 []]:=by kernel_rfl
theorem aTR:aU Tryz.prog 252=some 1:=by kernel_rfl
theorem aQC:aW Tryz.prog 252=some false:=by kernel_rfl
theorem aMt:AD Tryz.prog 26 0=some (0,24):=by kernel_rfl
theorem aMu:AD Tryz.prog 30 0=some (0,9):=by kernel_rfl
theorem aMv:AD Tryz.prog 30 1=some (1,3):=by kernel_rfl
theorem aMw:AD Tryz.prog 30 2=some (2,22):=by kernel_rfl
theorem aMx:AD Tryz.prog 36 0=some (0,34):=by kernel_rfl
theorem aMy:AD Tryz.prog 36 1=some (1,3):=by kernel_rfl
theorem aMz:AD Tryz.prog 41 1=some (1,30):=by kernel_rfl
theorem aMA:AD Tryz.prog 60 0=some (0,9):=by kernel_rfl
theorem aMB:AD Tryz.prog 60 1=some (1,58):=by kernel_rfl
theorem aMC:AD Tryz.prog 68 0=some (0,3):=by kernel_rfl
theorem aMD:AD Tryz.prog 68 1=some (1,3):=by kernel_rfl
theorem aME:AD Tryz.prog 68 2=some (2,9):=by kernel_rfl
theorem aMF:AD Tryz.prog 68 3=some (3,9):=by kernel_rfl
theorem aMG:AD Tryz.prog 68 4=some (4,65):=by kernel_rfl
theorem aMH:AD Tryz.prog 68 5=some (5,66):=by kernel_rfl
theorem aMI:AD Tryz.prog 73 0=some (0,9):=by kernel_rfl
theorem aMJ:AD Tryz.prog 73 1=some (1,57):=by kernel_rfl
theorem aMK:AD Tryz.prog 73 2=some (2,71):=by kernel_rfl
theorem aML:AD Tryz.prog 76 0=some (0,3):=by kernel_rfl
theorem aMM:AD Tryz.prog 76 1=some (1,73):=by kernel_rfl
theorem aMN:AD Tryz.prog 76 2=some (4,9):=by kernel_rfl
theorem aMO:AD Tryz.prog 76 3=some (5,60):=by kernel_rfl
theorem aMP:AD Tryz.prog 76 4=some (7,74):=by kernel_rfl
theorem aMQ:AD Tryz.prog 76 5=some (8,68):=by kernel_rfl
theorem aMR:AD Tryz.prog 89 0=some (0,31):=by kernel_rfl
theorem aMS:AD Tryz.prog 91 0=some (0,1):=by kernel_rfl
theorem aGv:AD Tryz.prog 141 0=some (0,9):=by kernel_rfl
theorem aGw:AD Tryz.prog 141 1=some (1,9):=by kernel_rfl
theorem aGx:AD Tryz.prog 141 2=some (2,68):=by kernel_rfl
theorem aGy:AD Tryz.prog 144 0=some (0,9):=by kernel_rfl
theorem aGz:AD Tryz.prog 144 1=some (1,142):=by kernel_rfl
theorem aGA:AD Tryz.prog 144 2=some (2,132):=by kernel_rfl
theorem aGB:AD Tryz.prog 165 0=some (0,3):=by kernel_rfl
theorem aGC:AD Tryz.prog 168 0=some (0,3):=by kernel_rfl
theorem aGD:AD Tryz.prog 168 1=some (1,3):=by kernel_rfl
theorem aGE:AD Tryz.prog 209 0=some (0,9):=by kernel_rfl
theorem aGF:AD Tryz.prog 209 1=some (1,136):=by kernel_rfl
theorem aGG:AD Tryz.prog 209 2=some (2,132):=by kernel_rfl
theorem aGH:AD Tryz.prog 214 0=some (0,9):=by kernel_rfl
theorem aGI:AD Tryz.prog 214 1=some (1,212):=by kernel_rfl
theorem aGJ:AD Tryz.prog 242 0=some (0,3):=by kernel_rfl
theorem aGK:AD Tryz.prog 242 1=some (1,9):=by kernel_rfl
theorem aGL:AD Tryz.prog 242 2=some (2,66):=by kernel_rfl
theorem aGM:AD Tryz.prog 249 0=some (0,9):=by kernel_rfl
theorem aGN:AD Tryz.prog 249 1=some (1,58):=by kernel_rfl
theorem aSU:Nu Tryz.prog "restitch/eval.match" 210=some 371:=by kernel_rfl
theorem aSV:Nu Tryz.prog "restitch/eval.match" 211=some 372:=by kernel_rfl
theorem aST:Nu Tryz.prog "restitch/eval.match" 139=some 370:=by kernel_rfl
theorem an5:ans 5=aN5:=by kernel_rfl
theorem an7:ans 7=aN7:=by kernel_rfl
theorem Jf:ans 8=aN8:=by kernel_rfl
theorem an9:ans 9=aN9:=by kernel_rfl
theorem aU5:ans 10=aPL:=by kernel_rfl
theorem aU6:ans 11=aPM:=by kernel_rfl
theorem aU7:ans 12=aPN:=by kernel_rfl
theorem aU8:ans 13=aPO:=by kernel_rfl
theorem aU9:ans 15=aPQ:=by kernel_rfl
theorem aVa:ans 16=aPR:=by kernel_rfl
theorem aVb:ans 17=aPS:=by kernel_rfl
theorem aVc:ans 18=aPT:=by kernel_rfl
theorem aVd:ans 22=aPW:=by kernel_rfl
theorem aVe:ans 23=aPX:=by kernel_rfl
theorem aVf:ans 24=aPY:=by kernel_rfl
theorem aVg:ans 27=aPZ:=by kernel_rfl
theorem aVh:ans 28=aP0:=by kernel_rfl
theorem aVi:ans 29=aP1:=by kernel_rfl
theorem aVj:ans 31=aP2:=by kernel_rfl
theorem RA:ans 32=aP3:=by kernel_rfl
theorem Zv:ans 33=aP4:=by kernel_rfl
theorem Zu:ans 34=aP5:=by kernel_rfl
theorem aVk:ans 35=aP6:=by kernel_rfl
theorem aVl:ans 39=aP7:=by kernel_rfl
theorem aVm:ans 40=aP8:=by kernel_rfl
theorem aVn:ans 41=aP9:=by kernel_rfl
theorem aVo:ans 42=aQa:=by kernel_rfl
theorem aVp:ans 43=aQb:=by kernel_rfl
theorem aVq:ans 44=aQc:=by kernel_rfl
theorem aRC:ans 45=aQd:=by kernel_rfl
theorem aVr:ans 47=aQe:=by kernel_rfl
theorem aVs:ans 48=aQf:=by kernel_rfl
theorem aVt:ans 49=aQg:=by kernel_rfl
theorem aVu:ans 50=aQh:=by kernel_rfl
theorem aVv:ans 89=aQi:=by kernel_rfl
theorem aVw:ans 95=aQj:=by kernel_rfl
theorem aQD:ans 102=D2:=by kernel_rfl
theorem XA:ans 104=v8:=by kernel_rfl
theorem aQE:ans 105=D_:=by kernel_rfl
theorem aQF:ans 106=EQ:=by kernel_rfl
theorem aQG:ans 107=E3:=by kernel_rfl
theorem aQH:ans 115=E_:=by kernel_rfl
theorem aQI:ans 116=FR:=by kernel_rfl
theorem P':ans 117=FSq:=by kernel_rfl
theorem aQJ:ans 118=F5:=by kernel_rfl
theorem aQK:ans 119=F':=by kernel_rfl
theorem aQL:ans 120=F_:=by kernel_rfl
theorem P_:ans 121=G':=by kernel_rfl
theorem aQM:ans 122=G_:=by kernel_rfl
theorem aQN:ans 123=H_:=by kernel_rfl
theorem aQO:ans 124=If:=by kernel_rfl
theorem aQP:ans 125=IN:=by kernel_rfl
theorem aQQ:ans 126=IR:=by kernel_rfl
theorem QV:ans 127=IS:=by kernel_rfl
theorem aQR:ans 128=IT:=by kernel_rfl
theorem Q':ans 129=I':=by kernel_rfl
theorem aQS:ans 130=I_:=by kernel_rfl
theorem aQT:ans 132=J6:=by kernel_rfl
theorem aQU:ans 133=J_:=by kernel_rfl
theorem aQV:ans 148=K':=by kernel_rfl
theorem aQW:ans 150=K_:=by kernel_rfl
theorem aQX:ans 158=AI:=by kernel_rfl
theorem aQY:ans 159=AS:=by kernel_rfl
theorem aQZ:ans 160=AT:=by kernel_rfl
theorem aQ0:ans 161=A':=by kernel_rfl
theorem aQ1:ans 162=A_:=by kernel_rfl
theorem Q_:ans 172=By:=by kernel_rfl
theorem aQ2:ans 173=BY:=by kernel_rfl
theorem aQ3:ans 174=B':=by kernel_rfl
theorem R5:ans 175=B_:=by kernel_rfl
theorem aQ4:ans 176=C_:=by kernel_rfl
theorem aQ5:ans 177=S0:=by kernel_rfl
theorem R_:ans 178=S5:=by kernel_rfl
theorem aQ6:ans 179=S':=by kernel_rfl
theorem aQ7:ans 180=S_:=by kernel_rfl
theorem aQ8:ans 181=Te:=by kernel_rfl
theorem LI:ans 182=Tk:=by kernel_rfl
theorem aQ9:ans 183=Tq:=by kernel_rfl
theorem aRa:ans 184=Ts:=by kernel_rfl
theorem aRb:ans 185=Tx:=by kernel_rfl
theorem aRc:ans 186=Ty:=by kernel_rfl
theorem aRd:ans 187=T0:=by kernel_rfl
theorem LJ:ans 188=T_:=by kernel_rfl
theorem aRe:ans 189=Ub:=by kernel_rfl
theorem aRf:ans 190=Uc:=by kernel_rfl
theorem aRg:ans 191=Uh:=by kernel_rfl
theorem aRh:ans 193=Ui:=by kernel_rfl
theorem LS:ans 194=Uj:=by kernel_rfl
theorem aRi:ans 195=Up:=by kernel_rfl
theorem aRj:ans 196=Uq:=by kernel_rfl
theorem aRk:ans 214=Ur:=by kernel_rfl
theorem aRl:ans 216=Us:=by kernel_rfl
theorem aRm:ans 217=Uu:=by kernel_rfl
theorem aRn:ans 228=Uv:=by kernel_rfl
theorem L1:ans 229=Uw:=by kernel_rfl
theorem L2:ans 230=Uy:=by kernel_rfl
theorem aRo:ans 231=UA:=by kernel_rfl
theorem L_:ans 232=M8:=by kernel_rfl
theorem aRp:ans 233=M':=by kernel_rfl
theorem Mu:ans 234=M_:=by kernel_rfl
theorem Mw:ans 235=NE:=by kernel_rfl
theorem M6:ans 236=N_:=by kernel_rfl
theorem M7:ans 237=Ov:=by kernel_rfl
theorem aRq:ans 238=Oy:=by kernel_rfl
theorem aKa:ans 239=OF:=by kernel_rfl
theorem aRr:ans 240=O_:=by kernel_rfl
theorem aKb:ans 241=PH:=by kernel_rfl
theorem aRs:ans 243=PI:=by kernel_rfl
theorem aRt:ans 252=PK:=by kernel_rfl
theorem aRu:ans 261=PL:=by kernel_rfl
theorem aRv:ans 262=PO:=by kernel_rfl
theorem aRw:ans 263=PP:=by kernel_rfl
theorem aRz:ans 370=PR:=by kernel_rfl
theorem aRA:ans 371=P1:=by kernel_rfl
theorem aRB:ans 372=P2:=by kernel_rfl
end Go.Proofs.YtoiocfngjchdiaaGreatDoor
namespace Go.AM
section
variable {P:Program}{w:World}
structure Is (o:Oper) (d:Option Nat) (op:Op):Prop where
 dst:o.dst=d
 op:o.op=op
 gd:o.guard=none
theorem Is.eq{o:Oper}{d:Option Nat}{op:Op}(h:Is o d op):o=⟨d,op,o.type,o.pos,o.after,none⟩:=by
 cases o;cases h;simp_all
section
variable {b:Frame}{tm:Array Value}{ds:List Deferred}{k:List Item}{cs:List Frame}{ops:Array Oper}{i:Nat}{rest:List Nat}{o:Oper}{w':World}{d:Option Nat}{op:Op}
theorem aIh(ho:ops[i]?=some o)(hI:Is o none op)(hd:∀c,op≠.defer c)(hr:(execOp (⟨tm,ds⟩:Act).eval ⟨none,op,o.type,o.pos,o.after,none⟩).run P w=.ok .skip w') :
  Steps P (lone (b.atR ⟨tm,ds⟩ (.inRegion ops (i::rest)::k)) cs w) (lone (b.atR ⟨tm,ds⟩ (.inRegion ops rest::k)) cs w'):=by
 have h1:(execOp (⟨tm,ds⟩:Act).eval o).run P w=.ok .skip w':=by rw[hI.eq];exact hr
 have:=Steps.one (eY (b:=b) (a:=⟨tm,ds⟩) (k:=k) (cs:=cs) (rest:=rest) ho (by unfold Region.wanted;rw[hI.gd]) (by rw[hI.op];exact hd) h1)
 rw[hI.dst] at this;exact this
end
end
section
open Go.RowKit
variable {P:Program}{ans:FuncId->AF}{B0:Nat}
def kI(P:Program)(f:FuncId)(args:List ae)(res:ae):Prop :=
 (∃F,P.funcs[f]?=some F/\F.body.isSome=true)/\∀(w:World)(Ψ:HT)(vs:Array Value),c_ Ψ w->args.length=vs.size->(∀(i:Nat) a,args[i]?=some a->am Ψ [] a (vs.getD i undef)) ->
  ∀c cs,∃w' Z' v,Fr w Ψ (λ_=>none) w' Z' (λ_=>none)/\c_ Z' w'/\am Z' [] res v/\Steps P (lone (Frame.enter P f vs .normal) (c::cs) w) (lone (c.finish v) cs w')
theorem kI.jx{f:FuncId}{args:List ae}{res:ae}(h:kI P f args res)(hl:∀a∈args,ct 0 a=true):(∃F,P.funcs[f]?=some F/\F.body.isSome=true) /\
  ∀sto w Ψ J ow vs,dT ans B0 w Ψ J ow (args.map .val) vs sto->∀c cs,dS P ans B0 w Ψ J ow sto c cs (lone (Frame.enter P f vs .normal) (c::cs) w) (.ret (.val res)) sto:=by
 refine⟨h.1,λsto w Ψ J ow vs hp c cs=>?_⟩
 obtain⟨w',Z',v,hf,hw,hv,hs⟩:=h.2 w Ψ vs hp.b_ (by simpa using hp.size) (λi a ha=>by
  have h1:=hp.args i (.val a) (by simp[ha]);have h2:=hl a (Be ha);cases h1 with
  |val _ _ h1=>simpa using h1.ct h2) c cs
 have D0:Fr w Ψ ow w' Z' ow:=⟨hf.le,hf.size,λb hb _=>hf.keep b hb rfl,λb hb=>.inl hb,hf.os,hf.tape,hf.output⟩
 refine⟨w',Z',J,ow,D0,aG _,hw,hp.objs.mono hf.le λi _ b s hb=>?_,λb hb=>Bt (hp.lt b hb) hf.size,⟨rfl,Ae _,λ_ _=>rfl⟩,rfl,v,.val _ _ (hv.mono (HT.le_refl _) (pre_nil _)),hs⟩;have BC:=hp.lt b (by simp[hb])
 have:=hf.keep b BC rfl
 exact⟨hb,this.1,λo ho=>by rw[this.2 o];exact ho⟩
theorem aCQ{w:World}{Ψ:HT}{args:List Slot}{vs:Array Value}(hw:c_ Ψ w)(hl:args.length=vs.size)(hf:∀s∈args,s.free=true)(ha:∀(i:Nat) s,args[i]?=some s->bX w w.heap.size Ψ [] (λ_=>none) #[] i s (vs.getD i undef)):dT ans w.heap.size w Ψ [] (λ_=>none) args vs ⟨[],0⟩ :=
 ⟨hw,Ae _,λb h=>absurd rfl h,hl,hf,ha,⟨rfl,λi o h=>by simp at h⟩,Ae _⟩
theorem aAL{w:World}{Ψ:HT}{c:Frame}{cs:List Frame}{m:Machine}{res:ae}(h:dS P ans w.heap.size w Ψ [] (λ_=>none) ⟨[],0⟩ c cs m (.ret (.val res)) ⟨[],0⟩) :
  ∃w' Z' v,Fr w Ψ (λ_=>none) w' Z' (λ_=>none)/\c_ Z' w'/\am Z' [] res v/\Steps P m (lone (c.finish v) cs w'):=by
 obtain⟨w',Z',J',AO,hf,_,hw,ho,_,_,_,v,hs,A8⟩:=h;have hρ:J'=[]:=Ds.1 ho.1;subst hρ;refine⟨w',Z',v,⟨hf.le,hf.size,hf.keep,λb hb=>absurd rfl hb,hf.os,hf.tape,hf.output⟩,hw,?_,A8⟩;cases hs with
 |val _ _ h=>exact h
theorem kI.a1V{Q0:FuncId->AF}{Xj:gG}(E:∀B0,Env P Q0 B0 Xj){f:FuncId}{args:List ae}{res:ae}(e:GY P Q0 Xj (.fn f) (args.map .val) ⟨[],0⟩=some (.ret (.val res),⟨[],0⟩)):kI P f args res:=by
 obtain⟨n,hn⟩:=hQ.1 e;have key:=λB0=>(x9 (E B0) n).1.fn f _ _ _ _ hn
 obtain⟨F,h1,h2,_⟩:=(key 0).1;refine⟨⟨F,h1,h2⟩,λw Ψ vs hw hl ha c cs=>?_⟩;refine aAL ((key w.heap.size).2 w Ψ [] (λ_=>none) vs (aCQ hw (by simpa using hl) (λs hs=>?_) (λi s hs=>?_)) c cs)
 ·obtain⟨a,_,rfl⟩:=Cn.1 hs;rfl
 ·rw[Aw,Aq] at hs
  obtain⟨a,Kb,rfl⟩:=hs;exact .val _ _ (ha i a Kb)
theorem fP{w w':World}{Ψ:HT}(hw:c_ Ψ w)(hb:Below w.heap.size w w'):c_ Ψ w':=⟨Bi hw.kS hb.size,λb o c e=>by
 obtain⟨h1,v,h2,h3⟩:=hw.sat b o c e;exact⟨h1,v,(m8 (hb.block b (hw.lt e)) o).trans h2,h3⟩⟩
theorem mR{w w':World}{Ψ:HT}(hb:Below w.heap.size w w'):Fr w Ψ (λ_=>none) w' Ψ (λ_=>none) :=
 ⟨HT.le_refl _,hb.size,λb h _=>⟨hb.block b h,λ_=>rfl⟩,λb h=>absurd rfl h,hb.os,hb.tape,hb.output⟩
theorem a1E{f:FuncId}{vs:Array Value}{w:World}{R:Value->World->Prop}(h:Calls P f vs w λe w'=>∃v,e=.returned v/\R v w')(c:Frame)(cs:List Frame) :
  ∃w' v,R v w'/\Steps P (lone (Frame.enter P f vs .normal) (c::cs) w) (lone (c.finish v) cs w'):=by
 obtain⟨e,w',fr,⟨v,rfl,hr⟩,hc,_,hl⟩:=h (c::cs);exact⟨w',v,hr,Steps.trans hc (.one (step_leave_returned hl))⟩
def tX(P:Program)(f:FuncId)(args res:List ae):Prop :=
 (∃F,P.funcs[f]?=some F/\F.body.isSome=true)/\∀(w:World)(Ψ:HT)(vs:Array Value),c_ Ψ w->args.length=vs.size->(∀(i:Nat) a,args[i]?=some a->am Ψ [] a (vs.getD i undef)) ->
  ∀c cs,∃w' Z' us,Fr w Ψ (λ_=>none) w' Z' (λ_=>none)/\c_ Z' w'/\res.length=us.length/\(∀(i:Nat) x u,res[i]?=some x->us[i]?=some u->am Z' [] x u)/\Steps P (lone (Frame.enter P f vs .normal) (c::cs) w) (lone (c.finish (.tuple ⟨us⟩)) cs w')
theorem tX.jx{f:FuncId}{args res:List ae}(h:tX P f args res)(hl:∀a∈args,ct 0 a=true):(∃F,P.funcs[f]?=some F/\F.body.isSome=true) /\
  ∀sto w Ψ J ow vs,dT ans B0 w Ψ J ow (args.map .val) vs sto->∀c cs,dS P ans B0 w Ψ J ow sto c cs (lone (Frame.enter P f vs .normal) (c::cs) w) (.ret (.aj res)) sto:=by
 refine⟨h.1,λsto w Ψ J ow vs hp c cs=>?_⟩
 obtain⟨w',Z',us,hf,hw,hlen,hv,hs⟩:=h.2 w Ψ vs hp.b_ (by simpa using hp.size) (λi a ha=>by
  have h1:=hp.args i (.val a) (by simp[ha]);have h2:=hl a (Be ha);cases h1 with
  |val _ _ h1=>simpa using h1.ct h2) c cs
 have D0:Fr w Ψ ow w' Z' ow:=⟨hf.le,hf.size,λb hb _=>hf.keep b hb rfl,λb hb=>.inl hb,hf.os,hf.tape,hf.output⟩
 refine⟨w',Z',J,ow,D0,aG _,hw,hp.objs.mono hf.le λi _ b s hb=>?_,λb hb=>Bt (hp.lt b hb) hf.size,⟨rfl,Ae _,λ_ _=>rfl⟩,rfl,_,.aj _ _ hlen (λi x u h1 h2=>(hv i x u h1 h2).mono (HT.le_refl _) (pre_nil _)),hs⟩;have BC:=hp.lt b (by simp[hb])
 have:=hf.keep b BC rfl
 exact⟨hb,this.1,λo ho=>by rw[this.2 o];exact ho⟩
end
end Go.AM
