import Derived.Test.YtoiocfngjchdiaaGreatDoorA09
import Derived.WalkKit
set_option linter.all false
namespace Go.Proofs.YtoiocfngjchdiaaGreatDoor
open Go.AM
theorem sz0:aP Tryz.prog 0=some 1:=by kernel_rfl
theorem ag0:aM Tryz.prog 0=some false:=by kernel_rfl
theorem by0:aC Tryz.prog 0=0:=by kernel_rfl
theorem sz1:aP Tryz.prog 1=some 1:=by kernel_rfl
theorem ag1:aM Tryz.prog 1=some false:=by kernel_rfl
theorem zo1:zeroOf Tryz.prog 1=some AVal.nilfunc:=by kernel_rfl
theorem zc1:zeroCells Tryz.prog 1=some [Cell.val AVal.nilfunc]:=by kernel_rfl
theorem by1:aC Tryz.prog 1=8:=by kernel_rfl
theorem sz3:aP Tryz.prog 3=some 1:=by kernel_rfl
theorem ag3:aM Tryz.prog 3=some false:=by kernel_rfl
theorem zo3:zeroOf Tryz.prog 3=some (AVal.int IntKind.i64 0):=by kernel_rfl
theorem zc3:zeroCells Tryz.prog 3=some [Cell.val (AVal.int IntKind.i64 0)]:=by kernel_rfl
theorem by3:aC Tryz.prog 3=8:=by kernel_rfl
theorem sz4:aP Tryz.prog 4=some 1:=by kernel_rfl
theorem ag4:aM Tryz.prog 4=some false:=by kernel_rfl
theorem zo4:zeroOf Tryz.prog 4=some (AVal.bool false):=by kernel_rfl
theorem zc4:zeroCells Tryz.prog 4=some [Cell.val (AVal.bool false)]:=by kernel_rfl
theorem by4:aC Tryz.prog 4=1:=by kernel_rfl
theorem sz9:aP Tryz.prog 9=some 1:=by kernel_rfl
theorem ag9:aM Tryz.prog 9=some false:=by kernel_rfl
theorem zo9:zeroOf Tryz.prog 9=some (AVal.str []):=by kernel_rfl
theorem zc9:zeroCells Tryz.prog 9=some [Cell.val (AVal.str [])]:=by kernel_rfl
theorem by9:aC Tryz.prog 9=16:=by kernel_rfl
theorem aZq:aP Tryz.prog 20=some 1:=by kernel_rfl
theorem aV1:aM Tryz.prog 20=some false:=by kernel_rfl
theorem a0u:zeroOf Tryz.prog 20=some AVal.nilif:=by kernel_rfl
theorem aZ6:zeroCells Tryz.prog 20=some [Cell.val AVal.nilif]:=by kernel_rfl
theorem aXg:aC Tryz.prog 20=16:=by kernel_rfl
theorem aZr:aP Tryz.prog 22=some 1:=by kernel_rfl
theorem aV2:aM Tryz.prog 22=some false:=by kernel_rfl
theorem aZd:aO Tryz.prog 22=some 30:=by kernel_rfl
theorem a0v:zeroOf Tryz.prog 22=some (AVal.slice []):=by kernel_rfl
theorem aZ7:zeroCells Tryz.prog 22=some [Cell.own 3 []]:=by kernel_rfl
theorem aXh:aC Tryz.prog 22=24:=by kernel_rfl
theorem aZs:aP Tryz.prog 24=some 1:=by kernel_rfl
theorem aV3:aM Tryz.prog 24=some false:=by kernel_rfl
theorem aZe:aO Tryz.prog 24=some 76:=by kernel_rfl
theorem a0w:zeroOf Tryz.prog 24=some (AVal.slice []):=by kernel_rfl
theorem aZ8:zeroCells Tryz.prog 24=some [Cell.own 14 []]:=by kernel_rfl
theorem aXi:aC Tryz.prog 24=24:=by kernel_rfl
theorem aZt:aP Tryz.prog 26=some 1:=by kernel_rfl
theorem aV4:aM Tryz.prog 26=some true:=by kernel_rfl
theorem a0x:zeroOf Tryz.prog 26=some (AVal.agg [AVal.slice []]):=by kernel_rfl
theorem aZ9:zeroCells Tryz.prog 26=some [Cell.own 14 []]:=by kernel_rfl
theorem aXj:aC Tryz.prog 26=24:=by kernel_rfl
theorem aYX:(([{ name:= "Decls",type:=24,offset:=0,embedded:=false,tag:= "",pkgPath:= "",byteOffset:=0 }]:List Field).mapM λf=>(Tryz.prog.info? f.type).map λi=>(f.offset,i.size))=some [(0,1)]:=by kernel_rfl
theorem aZu:aP Tryz.prog 27=some 1:=by kernel_rfl
theorem aV5:aM Tryz.prog 27=some false:=by kernel_rfl
theorem aXk:aC Tryz.prog 27=0:=by kernel_rfl
theorem aZv:aP Tryz.prog 30=some 3:=by kernel_rfl
theorem aV6:aM Tryz.prog 30=some true:=by kernel_rfl
theorem a0y:zeroOf Tryz.prog 30=some (AVal.agg [AVal.str [],AVal.int IntKind.i64 0,AVal.slice []]):=by kernel_rfl
theorem a0a:zeroCells Tryz.prog 30=some [Cell.val (AVal.str []),Cell.val (AVal.int IntKind.i64 0),Cell.own 3 []]:=by kernel_rfl
theorem aXl:aC Tryz.prog 30=48:=by kernel_rfl
theorem aYY:(([{ name:= "Con",type:=9,offset:=0,embedded:=false,tag:= "",pkgPath:= "",byteOffset:=0 },{ name:= "Num",type:=3,offset:=1,embedded:=false,tag:= "",pkgPath:= "",byteOffset:=16 },{ name:= "Args",type:=22,offset:=2,embedded:=false,tag:= "",pkgPath:= "",byteOffset:=24 }]:List Field).mapM λf=>(Tryz.prog.info? f.type).map λi=>(f.offset,i.size))=some [(0,1),(1,1),(2,1)]:=by kernel_rfl
theorem aZw:aP Tryz.prog 31=some 1:=by kernel_rfl
theorem aV7:aM Tryz.prog 31=some false:=by kernel_rfl
theorem a0z:zeroOf Tryz.prog 31=some (AVal.int IntKind.i64 0):=by kernel_rfl
theorem a0b:zeroCells Tryz.prog 31=some [Cell.val (AVal.int IntKind.i64 0)]:=by kernel_rfl
theorem aXm:aC Tryz.prog 31=8:=by kernel_rfl
theorem aZx:aP Tryz.prog 32=some 1:=by kernel_rfl
theorem aV8:aM Tryz.prog 32=some false:=by kernel_rfl
theorem aXn:aC Tryz.prog 32=0:=by kernel_rfl
theorem aZy:aP Tryz.prog 34=some 1:=by kernel_rfl
theorem aV9:aM Tryz.prog 34=some false:=by kernel_rfl
theorem aZf:aO Tryz.prog 34=some 41:=by kernel_rfl
theorem a0A:zeroOf Tryz.prog 34=some (AVal.slice []):=by kernel_rfl
theorem a0c:zeroCells Tryz.prog 34=some [Cell.own 4 []]:=by kernel_rfl
theorem aXo:aC Tryz.prog 34=24:=by kernel_rfl
theorem aZz:aP Tryz.prog 36=some 2:=by kernel_rfl
theorem aWa:aM Tryz.prog 36=some true:=by kernel_rfl
theorem a0B:zeroOf Tryz.prog 36=some (AVal.agg [AVal.slice [],AVal.int IntKind.i64 0]):=by kernel_rfl
theorem a0d:zeroCells Tryz.prog 36=some [Cell.own 4 [],Cell.val (AVal.int IntKind.i64 0)]:=by kernel_rfl
theorem aXp:aC Tryz.prog 36=32:=by kernel_rfl
theorem aYZ:(([{ name:= "Outputs",type:=34,offset:=0,embedded:=false,tag:= "",pkgPath:= "",byteOffset:=0 },{ name:= "Steps",type:=3,offset:=1,embedded:=false,tag:= "",pkgPath:= "",byteOffset:=24 }]:List Field).mapM λf=>(Tryz.prog.info? f.type).map λi=>(f.offset,i.size))=some [(0,1),(1,1)]:=by kernel_rfl
theorem aZA:aP Tryz.prog 37=some 1:=by kernel_rfl
theorem aWb:aM Tryz.prog 37=some false:=by kernel_rfl
theorem aXq:aC Tryz.prog 37=0:=by kernel_rfl
theorem aZB:aP Tryz.prog 41=some 4:=by kernel_rfl
theorem aWc:aM Tryz.prog 41=some true:=by kernel_rfl
theorem a0C:zeroOf Tryz.prog 41=some (AVal.agg [AVal.str [],AVal.str [],AVal.int IntKind.i64 0,AVal.slice []]):=by kernel_rfl
theorem a0e:zeroCells Tryz.prog 41=some [Cell.val (AVal.str []),Cell.val (AVal.str []),Cell.val (AVal.int IntKind.i64 0),Cell.own 3 []]:=by kernel_rfl
theorem aXr:aC Tryz.prog 41=64:=by kernel_rfl
theorem aY0:(([{ name:= "Name",type:=9,offset:=0,embedded:=false,tag:= "",pkgPath:= "",byteOffset:=0 },{ name:= "Value",type:=30,offset:=1,embedded:=false,tag:= "",pkgPath:= "",byteOffset:=16 }]:List Field).mapM λf=>(Tryz.prog.info? f.type).map λi=>(f.offset,i.size))=some [(0,1),(1,3)]:=by kernel_rfl
theorem aZC:aP Tryz.prog 43=some 1:=by kernel_rfl
theorem aWd:aM Tryz.prog 43=some false:=by kernel_rfl
theorem aZg:aO Tryz.prog 43=some 3:=by kernel_rfl
theorem a0D:zeroOf Tryz.prog 43=some (AVal.slice []):=by kernel_rfl
theorem a0f:zeroCells Tryz.prog 43=some [Cell.own 1 []]:=by kernel_rfl
theorem aXs:aC Tryz.prog 43=24:=by kernel_rfl
theorem aZD:aP Tryz.prog 48=some 1:=by kernel_rfl
theorem aWe:aM Tryz.prog 48=some false:=by kernel_rfl
theorem aXt:aC Tryz.prog 48=0:=by kernel_rfl
theorem aZE:aP Tryz.prog 55=some 1:=by kernel_rfl
theorem aWf:aM Tryz.prog 55=some false:=by kernel_rfl
theorem aXu:aC Tryz.prog 55=0:=by kernel_rfl
theorem aZF:aP Tryz.prog 57=some 1:=by kernel_rfl
theorem aWg:aM Tryz.prog 57=some false:=by kernel_rfl
theorem aZh:aO Tryz.prog 57=some 9:=by kernel_rfl
theorem a0E:zeroOf Tryz.prog 57=some (AVal.slice []):=by kernel_rfl
theorem a0g:zeroCells Tryz.prog 57=some [Cell.own 1 []]:=by kernel_rfl
theorem aXv:aC Tryz.prog 57=24:=by kernel_rfl
theorem aZG:aP Tryz.prog 58=some 1:=by kernel_rfl
theorem aWh:aM Tryz.prog 58=some false:=by kernel_rfl
theorem aZi:aO Tryz.prog 58=some 60:=by kernel_rfl
theorem a0F:zeroOf Tryz.prog 58=some (AVal.slice []):=by kernel_rfl
theorem a0h:zeroCells Tryz.prog 58=some [Cell.own 2 []]:=by kernel_rfl
theorem aXw:aC Tryz.prog 58=24:=by kernel_rfl
theorem aZH:aP Tryz.prog 60=some 2:=by kernel_rfl
theorem aWi:aM Tryz.prog 60=some true:=by kernel_rfl
theorem a0G:zeroOf Tryz.prog 60=some (AVal.agg [AVal.str [],AVal.slice []]):=by kernel_rfl
theorem a0i:zeroCells Tryz.prog 60=some [Cell.val (AVal.str []),Cell.own 2 []]:=by kernel_rfl
theorem aXx:aC Tryz.prog 60=40:=by kernel_rfl
theorem aY1:(([{ name:= "Name",type:=9,offset:=0,embedded:=false,tag:= "",pkgPath:= "",byteOffset:=0 },{ name:= "Args",type:=58,offset:=1,embedded:=false,tag:= "",pkgPath:= "",byteOffset:=16 }]:List Field).mapM λf=>(Tryz.prog.info? f.type).map λi=>(f.offset,i.size))=some [(0,1),(1,1)]:=by kernel_rfl
theorem aZI:aP Tryz.prog 65=some 1:=by kernel_rfl
theorem aWj:aM Tryz.prog 65=some false:=by kernel_rfl
theorem aZj:aO Tryz.prog 65=some 68:=by kernel_rfl
theorem a0H:zeroOf Tryz.prog 65=some (AVal.slice []):=by kernel_rfl
theorem a0j:zeroCells Tryz.prog 65=some [Cell.own 6 []]:=by kernel_rfl
theorem aXy:aC Tryz.prog 65=24:=by kernel_rfl
theorem aZJ:aP Tryz.prog 66=some 1:=by kernel_rfl
theorem aWk:aM Tryz.prog 66=some false:=by kernel_rfl
theorem aZk:aO Tryz.prog 66=some 242:=by kernel_rfl
theorem a0I:zeroOf Tryz.prog 66=some (AVal.slice []):=by kernel_rfl
theorem a0k:zeroCells Tryz.prog 66=some [Cell.own 3 []]:=by kernel_rfl
theorem aXz:aC Tryz.prog 66=24:=by kernel_rfl
theorem aZK:aP Tryz.prog 68=some 6:=by kernel_rfl
theorem aWl:aM Tryz.prog 68=some true:=by kernel_rfl
theorem a0J:zeroOf Tryz.prog 68=some (AVal.agg [AVal.int IntKind.i64 0,AVal.int IntKind.i64 0,AVal.str [],AVal.str [],AVal.slice [],AVal.slice []]):=by kernel_rfl
theorem a0l:zeroCells Tryz.prog 68=some [Cell.val (AVal.int IntKind.i64 0),Cell.val (AVal.int IntKind.i64 0),Cell.val (AVal.str []),Cell.val (AVal.str []),Cell.own 6 [],Cell.own 3 []]:=by kernel_rfl
theorem aXA:aC Tryz.prog 68=96:=by kernel_rfl
theorem aY2:(([{ name:= "Kind",type:=3,offset:=0,embedded:=false,tag:= "",pkgPath:= "",byteOffset:=0 },{ name:= "Num",type:=3,offset:=1,embedded:=false,tag:= "",pkgPath:= "",byteOffset:=8 },{ name:= "Name",type:=9,offset:=2,embedded:=false,tag:= "",pkgPath:= "",byteOffset:=16 },{ name:= "Arg",type:=9,offset:=3,embedded:=false,tag:= "",pkgPath:= "",byteOffset:=32 },{ name:= "Args",type:=65,offset:=4,embedded:=false,tag:= "",pkgPath:= "",byteOffset:=48 },{ name:= "Pats",type:=66,offset:=5,embedded:=false,tag:= "",pkgPath:= "",byteOffset:=72 }]:List Field).mapM λf=>(Tryz.prog.info? f.type).map λi=>(f.offset,i.size))=some [(0,1),(1,1),(2,1),(3,1),(4,1),(5,1)]:=by kernel_rfl
theorem aZL:aP Tryz.prog 69=some 1:=by kernel_rfl
theorem aWm:aM Tryz.prog 69=some false:=by kernel_rfl
theorem aXB:aC Tryz.prog 69=0:=by kernel_rfl
theorem aZM:aP Tryz.prog 71=some 1:=by kernel_rfl
theorem aWn:aM Tryz.prog 71=some false:=by kernel_rfl
theorem aZl:aO Tryz.prog 71=some 249:=by kernel_rfl
theorem a0K:zeroOf Tryz.prog 71=some (AVal.slice []):=by kernel_rfl
theorem a0m:zeroCells Tryz.prog 71=some [Cell.own 2 []]:=by kernel_rfl
theorem aXC:aC Tryz.prog 71=24:=by kernel_rfl
theorem aZN:aP Tryz.prog 73=some 3:=by kernel_rfl
theorem aWo:aM Tryz.prog 73=some true:=by kernel_rfl
theorem a0L:zeroOf Tryz.prog 73=some (AVal.agg [AVal.str [],AVal.slice [],AVal.slice []]):=by kernel_rfl
theorem a0n:zeroCells Tryz.prog 73=some [Cell.val (AVal.str []),Cell.own 1 [],Cell.own 2 []]:=by kernel_rfl
theorem aXD:aC Tryz.prog 73=64:=by kernel_rfl
theorem aY3:(([{ name:= "Name",type:=9,offset:=0,embedded:=false,tag:= "",pkgPath:= "",byteOffset:=0 },{ name:= "Vars",type:=57,offset:=1,embedded:=false,tag:= "",pkgPath:= "",byteOffset:=16 },{ name:= "Cons",type:=71,offset:=2,embedded:=false,tag:= "",pkgPath:= "",byteOffset:=40 }]:List Field).mapM λf=>(Tryz.prog.info? f.type).map λi=>(f.offset,i.size))=some [(0,1),(1,1),(2,1)]:=by kernel_rfl
theorem aZO:aP Tryz.prog 74=some 1:=by kernel_rfl
theorem aWp:aM Tryz.prog 74=some false:=by kernel_rfl
theorem aZm:aO Tryz.prog 74=some 141:=by kernel_rfl
theorem a0M:zeroOf Tryz.prog 74=some (AVal.slice []):=by kernel_rfl
theorem a0o:zeroCells Tryz.prog 74=some [Cell.own 8 []]:=by kernel_rfl
theorem aXE:aC Tryz.prog 74=24:=by kernel_rfl
theorem aZP:aP Tryz.prog 76=some 14:=by kernel_rfl
theorem aWq:aM Tryz.prog 76=some true:=by kernel_rfl
theorem a0N:zeroOf Tryz.prog 76=some (AVal.agg [AVal.int IntKind.i64 0,AVal.str [],AVal.slice [],AVal.slice [],AVal.str [],AVal.str [],AVal.slice [],AVal.slice [],AVal.int IntKind.i64 0,AVal.int IntKind.i64 0,AVal.str [],AVal.str [],AVal.slice [],AVal.slice []]):=by kernel_rfl
theorem a0p:zeroCells Tryz.prog 76=some [Cell.val (AVal.int IntKind.i64 0),Cell.val (AVal.str []),Cell.own 1 [],Cell.own 2 [],Cell.val (AVal.str []),Cell.val (AVal.str []),Cell.own 2 [],Cell.own 8 [],Cell.val (AVal.int IntKind.i64 0),Cell.val (AVal.int IntKind.i64 0),Cell.val (AVal.str []),Cell.val (AVal.str []),Cell.own 6 [],Cell.own 3 []]:=by kernel_rfl
theorem aXF:aC Tryz.prog 76=248:=by kernel_rfl
theorem aY4:(([{ name:= "Kind",type:=3,offset:=0,embedded:=false,tag:= "",pkgPath:= "",byteOffset:=0 },{ name:= "Data",type:=73,offset:=1,embedded:=false,tag:= "",pkgPath:= "",byteOffset:=8 },{ name:= "Name",type:=9,offset:=4,embedded:=false,tag:= "",pkgPath:= "",byteOffset:=72 },{ name:= "Type",type:=60,offset:=5,embedded:=false,tag:= "",pkgPath:= "",byteOffset:=88 },{ name:= "Funs",type:=74,offset:=7,embedded:=false,tag:= "",pkgPath:= "",byteOffset:=128 },{ name:= "Body",type:=68,offset:=8,embedded:=false,tag:= "",pkgPath:= "",byteOffset:=152 }]:List Field).mapM λf=>(Tryz.prog.info? f.type).map λi=>(f.offset,i.size))=some [(0,1),(1,3),(4,1),(5,2),(7,1),(8,6)]:=by kernel_rfl
theorem aZQ:aP Tryz.prog 87=some 1:=by kernel_rfl
theorem aWr:aM Tryz.prog 87=some false:=by kernel_rfl
theorem a0O:zeroOf Tryz.prog 87=some AVal.nilptr:=by kernel_rfl
theorem a0q:zeroCells Tryz.prog 87=some [Cell.val AVal.nilptr]:=by kernel_rfl
theorem aXG:aC Tryz.prog 87=8:=by kernel_rfl
theorem aZR:aP Tryz.prog 89=some 2:=by kernel_rfl
theorem aWs:aM Tryz.prog 89=some true:=by kernel_rfl
theorem a0P:zeroOf Tryz.prog 89=some (AVal.agg [AVal.int IntKind.i64 0,AVal.int IntKind.i64 0]):=by kernel_rfl
theorem a0r:zeroCells Tryz.prog 89=some [Cell.val (AVal.int IntKind.i64 0),Cell.val (AVal.int IntKind.i64 0)]:=by kernel_rfl
theorem aXH:aC Tryz.prog 89=16:=by kernel_rfl
theorem aY5:(([{ name:= "e",type:=31,offset:=0,embedded:=false,tag:= "",pkgPath:= "restitch/eval",byteOffset:=0 },{ name:= "at",type:=3,offset:=1,embedded:=false,tag:= "",pkgPath:= "restitch/eval",byteOffset:=8 }]:List Field).mapM λf=>(Tryz.prog.info? f.type).map λi=>(f.offset,i.size))=some [(0,1),(1,1)]:=by kernel_rfl
theorem aZS:aP Tryz.prog 91=some 1:=by kernel_rfl
theorem aWt:aM Tryz.prog 91=some true:=by kernel_rfl
theorem a0Q:zeroOf Tryz.prog 91=some (AVal.agg [AVal.nilfunc]):=by kernel_rfl
theorem a0s:zeroCells Tryz.prog 91=some [Cell.val AVal.nilfunc]:=by kernel_rfl
theorem aXI:aC Tryz.prog 91=8:=by kernel_rfl
theorem aY6:(([{ name:= "step",type:=1,offset:=0,embedded:=false,tag:= "",pkgPath:= "restitch/eval",byteOffset:=0 }]:List Field).mapM λf=>(Tryz.prog.info? f.type).map λi=>(f.offset,i.size))=some [(0,1)]:=by kernel_rfl
theorem aZT:aP Tryz.prog 94=some 1:=by kernel_rfl
theorem aWu:aM Tryz.prog 94=some false:=by kernel_rfl
theorem a0R:zeroOf Tryz.prog 94=some AVal.nilptr:=by kernel_rfl
theorem a0t:zeroCells Tryz.prog 94=some [Cell.val AVal.nilptr]:=by kernel_rfl
theorem aXJ:aC Tryz.prog 94=8:=by kernel_rfl
theorem aZU:aP Tryz.prog 95=some 1:=by kernel_rfl
theorem aWv:aM Tryz.prog 95=some false:=by kernel_rfl
theorem aXK:aC Tryz.prog 95=0:=by kernel_rfl
theorem aTp:aP Tryz.prog 103=some 1:=by kernel_rfl
theorem aOV:aM Tryz.prog 103=some false:=by kernel_rfl
theorem aU8:zeroOf Tryz.prog 103=some AVal.nilfunc:=by kernel_rfl
theorem aUz:zeroCells Tryz.prog 103=some [Cell.val AVal.nilfunc]:=by kernel_rfl
theorem aQ1:aC Tryz.prog 103=8:=by kernel_rfl
theorem aTq:aP Tryz.prog 104=some 1:=by kernel_rfl
theorem aOW:aM Tryz.prog 104=some false:=by kernel_rfl
theorem aU9:zeroOf Tryz.prog 104=some AVal.nilfunc:=by kernel_rfl
theorem aUA:zeroCells Tryz.prog 104=some [Cell.val AVal.nilfunc]:=by kernel_rfl
theorem aQ2:aC Tryz.prog 104=8:=by kernel_rfl
theorem aTr:aP Tryz.prog 107=some 1:=by kernel_rfl
theorem aOX:aM Tryz.prog 107=some false:=by kernel_rfl
theorem aVa:zeroOf Tryz.prog 107=some AVal.nilfunc:=by kernel_rfl
theorem aUB:zeroCells Tryz.prog 107=some [Cell.val AVal.nilfunc]:=by kernel_rfl
theorem aQ3:aC Tryz.prog 107=8:=by kernel_rfl
theorem aTs:aP Tryz.prog 117=some 1:=by kernel_rfl
theorem aOY:aM Tryz.prog 117=some false:=by kernel_rfl
theorem aVb:zeroOf Tryz.prog 117=some AVal.nilptr:=by kernel_rfl
theorem aUC:zeroCells Tryz.prog 117=some [Cell.val AVal.nilptr]:=by kernel_rfl
theorem aQ4:aC Tryz.prog 117=8:=by kernel_rfl
theorem aTt:aP Tryz.prog 118=some 1:=by kernel_rfl
theorem aOZ:aM Tryz.prog 118=some false:=by kernel_rfl
theorem aVc:zeroOf Tryz.prog 118=some AVal.nilptr:=by kernel_rfl
theorem aUD:zeroCells Tryz.prog 118=some [Cell.val AVal.nilptr]:=by kernel_rfl
theorem aQ5:aC Tryz.prog 118=8:=by kernel_rfl
theorem aTu:aP Tryz.prog 132=some 1:=by kernel_rfl
theorem aO0:aM Tryz.prog 132=some false:=by kernel_rfl
theorem aVd:zeroOf Tryz.prog 132=some AVal.nilptr:=by kernel_rfl
theorem aUE:zeroCells Tryz.prog 132=some [Cell.val AVal.nilptr]:=by kernel_rfl
theorem aQ6:aC Tryz.prog 132=8:=by kernel_rfl
theorem aTv:aP Tryz.prog 133=some 1:=by kernel_rfl
theorem aO1:aM Tryz.prog 133=some false:=by kernel_rfl
theorem aVe:zeroOf Tryz.prog 133=some AVal.nilptr:=by kernel_rfl
theorem aUF:zeroCells Tryz.prog 133=some [Cell.val AVal.nilptr]:=by kernel_rfl
theorem aQ7:aC Tryz.prog 133=8:=by kernel_rfl
theorem aTw:aP Tryz.prog 136=some 1:=by kernel_rfl
theorem aO2:aM Tryz.prog 136=some false:=by kernel_rfl
theorem aVf:zeroOf Tryz.prog 136=some AVal.nilif:=by kernel_rfl
theorem aUG:zeroCells Tryz.prog 136=some [Cell.val AVal.nilif]:=by kernel_rfl
theorem aQ8:aC Tryz.prog 136=16:=by kernel_rfl
theorem aTx:aP Tryz.prog 138=some 1:=by kernel_rfl
theorem aO3:aM Tryz.prog 138=some false:=by kernel_rfl
theorem aTm:aO Tryz.prog 138=some 139:=by kernel_rfl
theorem aVg:zeroOf Tryz.prog 138=some (AVal.slice []):=by kernel_rfl
theorem aUH:zeroCells Tryz.prog 138=some [Cell.own 1 []]:=by kernel_rfl
theorem aQ9:aC Tryz.prog 138=24:=by kernel_rfl
theorem aTy:aP Tryz.prog 139=some 1:=by kernel_rfl
theorem aO4:aM Tryz.prog 139=some false:=by kernel_rfl
theorem aVh:zeroOf Tryz.prog 139=some AVal.nilptr:=by kernel_rfl
theorem aUI:zeroCells Tryz.prog 139=some [Cell.val AVal.nilptr]:=by kernel_rfl
theorem aRa:aC Tryz.prog 139=8:=by kernel_rfl
theorem aTz:aP Tryz.prog 141=some 8:=by kernel_rfl
theorem aO5:aM Tryz.prog 141=some true:=by kernel_rfl
theorem aVi:zeroOf Tryz.prog 141=some (AVal.agg [AVal.str [],AVal.str [],AVal.int IntKind.i64 0,AVal.int IntKind.i64 0,AVal.str [],AVal.str [],AVal.slice [],AVal.slice []]):=by kernel_rfl
theorem aUJ:zeroCells Tryz.prog 141=some [Cell.val (AVal.str []),Cell.val (AVal.str []),Cell.val (AVal.int IntKind.i64 0),Cell.val (AVal.int IntKind.i64 0),Cell.val (AVal.str []),Cell.val (AVal.str []),Cell.own 6 [],Cell.own 3 []]:=by kernel_rfl
theorem aRb:aC Tryz.prog 141=128:=by kernel_rfl
theorem aS6:(([{ name:= "Name",type:=9,offset:=0,embedded:=false,tag:= "",pkgPath:= "",byteOffset:=0 },{ name:= "Arg",type:=9,offset:=1,embedded:=false,tag:= "",pkgPath:= "",byteOffset:=16 },{ name:= "Body",type:=68,offset:=2,embedded:=false,tag:= "",pkgPath:= "",byteOffset:=32 }]:List Field).mapM λf=>(Tryz.prog.info? f.type).map λi=>(f.offset,i.size))=some [(0,1),(1,1),(2,6)]:=by kernel_rfl
theorem aTA:aP Tryz.prog 142=some 1:=by kernel_rfl
theorem aO6:aM Tryz.prog 142=some false:=by kernel_rfl
theorem aVj:zeroOf Tryz.prog 142=some AVal.nilptr:=by kernel_rfl
theorem aUK:zeroCells Tryz.prog 142=some [Cell.val AVal.nilptr]:=by kernel_rfl
theorem aRc:aC Tryz.prog 142=8:=by kernel_rfl
theorem aTB:aP Tryz.prog 144=some 3:=by kernel_rfl
theorem aO7:aM Tryz.prog 144=some true:=by kernel_rfl
theorem aVk:zeroOf Tryz.prog 144=some (AVal.agg [AVal.str [],AVal.nilptr,AVal.nilptr]):=by kernel_rfl
theorem aUL:zeroCells Tryz.prog 144=some [Cell.val (AVal.str []),Cell.val AVal.nilptr,Cell.val AVal.nilptr]:=by kernel_rfl
theorem aRd:aC Tryz.prog 144=32:=by kernel_rfl
theorem aS7:(([{ name:= "arg",type:=9,offset:=0,embedded:=false,tag:= "",pkgPath:= "restitch/eval",byteOffset:=0 },{ name:= "body",type:=142,offset:=1,embedded:=false,tag:= "",pkgPath:= "restitch/eval",byteOffset:=16 },{ name:= "env",type:=132,offset:=2,embedded:=false,tag:= "",pkgPath:= "restitch/eval",byteOffset:=24 }]:List Field).mapM λf=>(Tryz.prog.info? f.type).map λi=>(f.offset,i.size))=some [(0,1),(1,1),(2,1)]:=by kernel_rfl
theorem aTC:aP Tryz.prog 148=some 1:=by kernel_rfl
theorem aO8:aM Tryz.prog 148=some false:=by kernel_rfl
theorem aVl:zeroOf Tryz.prog 148=some AVal.nilfunc:=by kernel_rfl
theorem aUM:zeroCells Tryz.prog 148=some [Cell.val AVal.nilfunc]:=by kernel_rfl
theorem aRe:aC Tryz.prog 148=8:=by kernel_rfl
theorem aTD:aP Tryz.prog 149=some 1:=by kernel_rfl
theorem aO9:aM Tryz.prog 149=some false:=by kernel_rfl
theorem aVm:zeroOf Tryz.prog 149=some AVal.nilfunc:=by kernel_rfl
theorem aUN:zeroCells Tryz.prog 149=some [Cell.val AVal.nilfunc]:=by kernel_rfl
theorem aRf:aC Tryz.prog 149=8:=by kernel_rfl
theorem aTE:aP Tryz.prog 163=some 1:=by kernel_rfl
theorem aPa:aM Tryz.prog 163=some false:=by kernel_rfl
theorem aVn:zeroOf Tryz.prog 163=some AVal.nilptr:=by kernel_rfl
theorem aUO:zeroCells Tryz.prog 163=some [Cell.val AVal.nilptr]:=by kernel_rfl
theorem aRg:aC Tryz.prog 163=8:=by kernel_rfl
theorem aTF:aP Tryz.prog 165=some 1:=by kernel_rfl
theorem aPb:aM Tryz.prog 165=some true:=by kernel_rfl
theorem aVo:zeroOf Tryz.prog 165=some (AVal.agg [AVal.int IntKind.i64 0]):=by kernel_rfl
theorem aUP:zeroCells Tryz.prog 165=some [Cell.val (AVal.int IntKind.i64 0)]:=by kernel_rfl
theorem aRh:aC Tryz.prog 165=8:=by kernel_rfl
theorem aS8:(([{ name:= "most",type:=3,offset:=0,embedded:=false,tag:= "",pkgPath:= "restitch/syntax",byteOffset:=0 }]:List Field).mapM λf=>(Tryz.prog.info? f.type).map λi=>(f.offset,i.size))=some [(0,1)]:=by kernel_rfl
theorem aTG:aP Tryz.prog 166=some 1:=by kernel_rfl
theorem aPc:aM Tryz.prog 166=some false:=by kernel_rfl
theorem aVp:zeroOf Tryz.prog 166=some AVal.nilptr:=by kernel_rfl
theorem aUQ:zeroCells Tryz.prog 166=some [Cell.val AVal.nilptr]:=by kernel_rfl
theorem aRi:aC Tryz.prog 166=8:=by kernel_rfl
theorem aTH:aP Tryz.prog 168=some 2:=by kernel_rfl
theorem aPd:aM Tryz.prog 168=some true:=by kernel_rfl
theorem aVq:zeroOf Tryz.prog 168=some (AVal.agg [AVal.int IntKind.i64 0,AVal.int IntKind.i64 0]):=by kernel_rfl
theorem aUR:zeroCells Tryz.prog 168=some [Cell.val (AVal.int IntKind.i64 0),Cell.val (AVal.int IntKind.i64 0)]:=by kernel_rfl
theorem aRj:aC Tryz.prog 168=16:=by kernel_rfl
theorem aS9:(([{ name:= "size",type:=3,offset:=0,embedded:=false,tag:= "",pkgPath:= "restitch/syntax",byteOffset:=0 },{ name:= "depth",type:=3,offset:=1,embedded:=false,tag:= "",pkgPath:= "restitch/syntax",byteOffset:=8 }]:List Field).mapM λf=>(Tryz.prog.info? f.type).map λi=>(f.offset,i.size))=some [(0,1),(1,1)]:=by kernel_rfl
theorem aTI:aP Tryz.prog 170=some 1:=by kernel_rfl
theorem aPe:aM Tryz.prog 170=some false:=by kernel_rfl
theorem aVr:zeroOf Tryz.prog 170=some AVal.nilfunc:=by kernel_rfl
theorem aUS:zeroCells Tryz.prog 170=some [Cell.val AVal.nilfunc]:=by kernel_rfl
theorem aRk:aC Tryz.prog 170=8:=by kernel_rfl
theorem aTJ:aP Tryz.prog 173=some 1:=by kernel_rfl
theorem aPf:aM Tryz.prog 173=some false:=by kernel_rfl
theorem aVs:zeroOf Tryz.prog 173=some AVal.nilfunc:=by kernel_rfl
theorem aUT:zeroCells Tryz.prog 173=some [Cell.val AVal.nilfunc]:=by kernel_rfl
theorem aRl:aC Tryz.prog 173=8:=by kernel_rfl
theorem aTK:aP Tryz.prog 175=some 1:=by kernel_rfl
theorem aPg:aM Tryz.prog 175=some false:=by kernel_rfl
theorem aVt:zeroOf Tryz.prog 175=some AVal.nilfunc:=by kernel_rfl
theorem aUU:zeroCells Tryz.prog 175=some [Cell.val AVal.nilfunc]:=by kernel_rfl
theorem aRm:aC Tryz.prog 175=8:=by kernel_rfl
theorem aTL:aP Tryz.prog 209=some 3:=by kernel_rfl
theorem aPh:aM Tryz.prog 209=some true:=by kernel_rfl
theorem aVu:zeroOf Tryz.prog 209=some (AVal.agg [AVal.str [],AVal.nilif,AVal.nilptr]):=by kernel_rfl
theorem aUV:zeroCells Tryz.prog 209=some [Cell.val (AVal.str []),Cell.val AVal.nilif,Cell.val AVal.nilptr]:=by kernel_rfl
theorem aRn:aC Tryz.prog 209=40:=by kernel_rfl
theorem aTa:(([{ name:= "name",type:=9,offset:=0,embedded:=false,tag:= "",pkgPath:= "restitch/eval",byteOffset:=0 },{ name:= "item",type:=136,offset:=1,embedded:=false,tag:= "",pkgPath:= "restitch/eval",byteOffset:=16 },{ name:= "outer",type:=132,offset:=2,embedded:=false,tag:= "",pkgPath:= "restitch/eval",byteOffset:=32 }]:List Field).mapM λf=>(Tryz.prog.info? f.type).map λi=>(f.offset,i.size))=some [(0,1),(1,1),(2,1)]:=by kernel_rfl
theorem aTM:aP Tryz.prog 210=some 1:=by kernel_rfl
theorem aPi:aM Tryz.prog 210=some false:=by kernel_rfl
theorem aVv:zeroOf Tryz.prog 210=some (AVal.int IntKind.i64 0):=by kernel_rfl
theorem aUW:zeroCells Tryz.prog 210=some [Cell.val (AVal.int IntKind.i64 0)]:=by kernel_rfl
theorem aRo:aC Tryz.prog 210=8:=by kernel_rfl
theorem aTN:aP Tryz.prog 211=some 1:=by kernel_rfl
theorem aPj:aM Tryz.prog 211=some false:=by kernel_rfl
theorem aVw:zeroOf Tryz.prog 211=some AVal.nilptr:=by kernel_rfl
theorem aUX:zeroCells Tryz.prog 211=some [Cell.val AVal.nilptr]:=by kernel_rfl
theorem aRp:aC Tryz.prog 211=8:=by kernel_rfl
theorem aTO:aP Tryz.prog 212=some 1:=by kernel_rfl
theorem aPk:aM Tryz.prog 212=some false:=by kernel_rfl
theorem aTn:aO Tryz.prog 212=some 136:=by kernel_rfl
theorem aVx:zeroOf Tryz.prog 212=some (AVal.slice []):=by kernel_rfl
theorem aUY:zeroCells Tryz.prog 212=some [Cell.own 1 []]:=by kernel_rfl
theorem aRq:aC Tryz.prog 212=24:=by kernel_rfl
theorem aTP:aP Tryz.prog 214=some 2:=by kernel_rfl
theorem aPl:aM Tryz.prog 214=some true:=by kernel_rfl
theorem aVy:zeroOf Tryz.prog 214=some (AVal.agg [AVal.str [],AVal.slice []]):=by kernel_rfl
theorem aUZ:zeroCells Tryz.prog 214=some [Cell.val (AVal.str []),Cell.own 1 []]:=by kernel_rfl
theorem aRr:aC Tryz.prog 214=40:=by kernel_rfl
theorem aTb:(([{ name:= "con",type:=9,offset:=0,embedded:=false,tag:= "",pkgPath:= "restitch/eval",byteOffset:=0 },{ name:= "args",type:=212,offset:=1,embedded:=false,tag:= "",pkgPath:= "restitch/eval",byteOffset:=16 }]:List Field).mapM λf=>(Tryz.prog.info? f.type).map λi=>(f.offset,i.size))=some [(0,1),(1,1)]:=by kernel_rfl
theorem aTQ:aP Tryz.prog 218=some 1:=by kernel_rfl
theorem aPm:aM Tryz.prog 218=some false:=by kernel_rfl
theorem aRs:aC Tryz.prog 218=0:=by kernel_rfl
theorem aTR:aP Tryz.prog 219=some 1:=by kernel_rfl
theorem aPn:aM Tryz.prog 219=some false:=by kernel_rfl
theorem aRt:aC Tryz.prog 219=0:=by kernel_rfl
theorem aTS:aP Tryz.prog 221=some 1:=by kernel_rfl
theorem aPo:aM Tryz.prog 221=some false:=by kernel_rfl
theorem aVz:zeroOf Tryz.prog 221=some AVal.nilfunc:=by kernel_rfl
theorem aU0:zeroCells Tryz.prog 221=some [Cell.val AVal.nilfunc]:=by kernel_rfl
theorem aRu:aC Tryz.prog 221=8:=by kernel_rfl
theorem aTT:aP Tryz.prog 242=some 3:=by kernel_rfl
theorem aPp:aM Tryz.prog 242=some true:=by kernel_rfl
theorem aVA:zeroOf Tryz.prog 242=some (AVal.agg [AVal.int IntKind.i64 0,AVal.str [],AVal.slice []]):=by kernel_rfl
theorem aU1:zeroCells Tryz.prog 242=some [Cell.val (AVal.int IntKind.i64 0),Cell.val (AVal.str []),Cell.own 3 []]:=by kernel_rfl
theorem aRv:aC Tryz.prog 242=48:=by kernel_rfl
theorem aTc:(([{ name:= "Kind",type:=3,offset:=0,embedded:=false,tag:= "",pkgPath:= "",byteOffset:=0 },{ name:= "Name",type:=9,offset:=1,embedded:=false,tag:= "",pkgPath:= "",byteOffset:=8 },{ name:= "Args",type:=66,offset:=2,embedded:=false,tag:= "",pkgPath:= "",byteOffset:=24 }]:List Field).mapM λf=>(Tryz.prog.info? f.type).map λi=>(f.offset,i.size))=some [(0,1),(1,1),(2,1)]:=by kernel_rfl
theorem aTU:aP Tryz.prog 246=some 1:=by kernel_rfl
theorem aPq:aM Tryz.prog 246=some false:=by kernel_rfl
theorem aVB:zeroOf Tryz.prog 246=some AVal.nilfunc:=by kernel_rfl
theorem aU2:zeroCells Tryz.prog 246=some [Cell.val AVal.nilfunc]:=by kernel_rfl
theorem aRw:aC Tryz.prog 246=8:=by kernel_rfl
theorem aTV:aP Tryz.prog 249=some 2:=by kernel_rfl
theorem aPr:aM Tryz.prog 249=some true:=by kernel_rfl
theorem aVC:zeroOf Tryz.prog 249=some (AVal.agg [AVal.str [],AVal.slice []]):=by kernel_rfl
theorem aU3:zeroCells Tryz.prog 249=some [Cell.val (AVal.str []),Cell.own 2 []]:=by kernel_rfl
theorem aRx:aC Tryz.prog 249=40:=by kernel_rfl
theorem aTd:(([{ name:= "Name",type:=9,offset:=0,embedded:=false,tag:= "",pkgPath:= "",byteOffset:=0 },{ name:= "Args",type:=58,offset:=1,embedded:=false,tag:= "",pkgPath:= "",byteOffset:=16 }]:List Field).mapM λf=>(Tryz.prog.info? f.type).map λi=>(f.offset,i.size))=some [(0,1),(1,1)]:=by kernel_rfl
theorem aTW:aP Tryz.prog 252=some 1:=by kernel_rfl
theorem aPs:aM Tryz.prog 252=some false:=by kernel_rfl
theorem aVD:zeroOf Tryz.prog 252=some AVal.nilfunc:=by kernel_rfl
theorem aU4:zeroCells Tryz.prog 252=some [Cell.val AVal.nilfunc]:=by kernel_rfl
theorem aRy:aC Tryz.prog 252=8:=by kernel_rfl
theorem aTX:aP Tryz.prog 257=some 1:=by kernel_rfl
theorem aPt:aM Tryz.prog 257=some false:=by kernel_rfl
theorem aVE:zeroOf Tryz.prog 257=some AVal.nilfunc:=by kernel_rfl
theorem aU5:zeroCells Tryz.prog 257=some [Cell.val AVal.nilfunc]:=by kernel_rfl
theorem aRz:aC Tryz.prog 257=8:=by kernel_rfl
theorem aTY:aP Tryz.prog 281=some 1:=by kernel_rfl
theorem aPu:aM Tryz.prog 281=some false:=by kernel_rfl
theorem aRA:aC Tryz.prog 281=0:=by kernel_rfl
theorem aTZ:aP Tryz.prog 283=some 1:=by kernel_rfl
theorem aPv:aM Tryz.prog 283=some false:=by kernel_rfl
theorem aRB:aC Tryz.prog 283=0:=by kernel_rfl
theorem aT0:aP Tryz.prog 285=some 1:=by kernel_rfl
theorem aPw:aM Tryz.prog 285=some false:=by kernel_rfl
theorem aVF:zeroOf Tryz.prog 285=some AVal.nilptr:=by kernel_rfl
theorem aU6:zeroCells Tryz.prog 285=some [Cell.val AVal.nilptr]:=by kernel_rfl
theorem aRC:aC Tryz.prog 285=8:=by kernel_rfl
theorem aLa:AD Tryz.prog 26 0=some (0,24):=by kernel_rfl
theorem aLb:AD Tryz.prog 30 0=some (0,9):=by kernel_rfl
theorem aLc:AD Tryz.prog 30 1=some (1,3):=by kernel_rfl
theorem aLd:AD Tryz.prog 30 2=some (2,22):=by kernel_rfl
theorem aLe:AD Tryz.prog 36 0=some (0,34):=by kernel_rfl
theorem aLf:AD Tryz.prog 36 1=some (1,3):=by kernel_rfl
theorem aLg:AD Tryz.prog 41 1=some (1,30):=by kernel_rfl
theorem aLh:AD Tryz.prog 60 0=some (0,9):=by kernel_rfl
theorem aLi:AD Tryz.prog 60 1=some (1,58):=by kernel_rfl
theorem aLj:AD Tryz.prog 68 0=some (0,3):=by kernel_rfl
theorem aLk:AD Tryz.prog 68 1=some (1,3):=by kernel_rfl
theorem aLl:AD Tryz.prog 68 2=some (2,9):=by kernel_rfl
theorem aLm:AD Tryz.prog 68 3=some (3,9):=by kernel_rfl
theorem aLn:AD Tryz.prog 68 4=some (4,65):=by kernel_rfl
theorem aLo:AD Tryz.prog 68 5=some (5,66):=by kernel_rfl
theorem aLp:AD Tryz.prog 73 0=some (0,9):=by kernel_rfl
theorem aLq:AD Tryz.prog 73 1=some (1,57):=by kernel_rfl
theorem aLr:AD Tryz.prog 73 2=some (2,71):=by kernel_rfl
theorem aLs:AD Tryz.prog 76 0=some (0,3):=by kernel_rfl
theorem aLt:AD Tryz.prog 76 1=some (1,73):=by kernel_rfl
theorem aLu:AD Tryz.prog 76 2=some (4,9):=by kernel_rfl
theorem aLv:AD Tryz.prog 76 3=some (5,60):=by kernel_rfl
theorem aLw:AD Tryz.prog 76 4=some (7,74):=by kernel_rfl
theorem aLx:AD Tryz.prog 76 5=some (8,68):=by kernel_rfl
theorem aLy:AD Tryz.prog 89 0=some (0,31):=by kernel_rfl
theorem aLz:AD Tryz.prog 91 0=some (0,1):=by kernel_rfl
theorem aFC:AD Tryz.prog 141 0=some (0,9):=by kernel_rfl
theorem aFD:AD Tryz.prog 141 1=some (1,9):=by kernel_rfl
theorem aFE:AD Tryz.prog 141 2=some (2,68):=by kernel_rfl
theorem aFF:AD Tryz.prog 144 0=some (0,9):=by kernel_rfl
theorem aFG:AD Tryz.prog 144 1=some (1,142):=by kernel_rfl
theorem aFH:AD Tryz.prog 144 2=some (2,132):=by kernel_rfl
theorem aFI:AD Tryz.prog 165 0=some (0,3):=by kernel_rfl
theorem aFJ:AD Tryz.prog 168 0=some (0,3):=by kernel_rfl
theorem aFK:AD Tryz.prog 168 1=some (1,3):=by kernel_rfl
theorem aFL:AD Tryz.prog 209 0=some (0,9):=by kernel_rfl
theorem aFM:AD Tryz.prog 209 1=some (1,136):=by kernel_rfl
theorem aFN:AD Tryz.prog 209 2=some (2,132):=by kernel_rfl
theorem aFO:AD Tryz.prog 214 0=some (0,9):=by kernel_rfl
theorem aFP:AD Tryz.prog 214 1=some (1,212):=by kernel_rfl
theorem aFQ:AD Tryz.prog 242 0=some (0,3):=by kernel_rfl
theorem aFR:AD Tryz.prog 242 1=some (1,9):=by kernel_rfl
theorem aFS:AD Tryz.prog 242 2=some (2,66):=by kernel_rfl
theorem aFT:AD Tryz.prog 249 0=some (0,9):=by kernel_rfl
theorem aFU:AD Tryz.prog 249 1=some (1,58):=by kernel_rfl
theorem aSN:N8 Tryz.prog "restitch/eval.match" 210=some 371:=by kernel_rfl
theorem aSO:N8 Tryz.prog "restitch/eval.match" 211=some 372:=by kernel_rfl
theorem aSM:N8 Tryz.prog "restitch/eval.match" 139=some 370:=by kernel_rfl
theorem an4:ans 4=Ze:=by kernel_rfl
theorem an7:ans 7=Zd:=by kernel_rfl
theorem an9:ans 9=Zc:=by kernel_rfl
theorem aWw:ans 10=ZK:=by kernel_rfl
theorem aWx:ans 11=ZJ:=by kernel_rfl
theorem aWy:ans 12=ZI:=by kernel_rfl
theorem aWz:ans 13=ZH:=by kernel_rfl
theorem aWA:ans 14=ZG:=by kernel_rfl
theorem aWB:ans 15=ZF:=by kernel_rfl
theorem aWC:ans 17=ZE:=by kernel_rfl
theorem aWD:ans 22=ZD:=by kernel_rfl
theorem aWE:ans 23=ZC:=by kernel_rfl
theorem aWF:ans 24=ZB:=by kernel_rfl
theorem aWG:ans 27=ZA:=by kernel_rfl
theorem aWH:ans 28=Yz:=by kernel_rfl
theorem aWI:ans 29=Zb:=by kernel_rfl
theorem aWJ:ans 31=Za:=by kernel_rfl
theorem QD:ans 32=Z9:=by kernel_rfl
theorem Yy:ans 33=Z8:=by kernel_rfl
theorem Yx:ans 34=Z7:=by kernel_rfl
theorem aWK:ans 35=Z6:=by kernel_rfl
theorem aWL:ans 39=Z5:=by kernel_rfl
theorem aWM:ans 40=Z3:=by kernel_rfl
theorem aWN:ans 41=ZZ:=by kernel_rfl
theorem aWO:ans 42=ZY:=by kernel_rfl
theorem aWP:ans 43=ZX:=by kernel_rfl
theorem aWQ:ans 44=ZW:=by kernel_rfl
theorem aWR:ans 45=ZV:=by kernel_rfl
theorem aWS:ans 47=ZU:=by kernel_rfl
theorem aWT:ans 48=ZT:=by kernel_rfl
theorem aWU:ans 49=ZS:=by kernel_rfl
theorem aWV:ans 50=ZR:=by kernel_rfl
theorem aWW:ans 59=ZQ:=by kernel_rfl
theorem aWX:ans 95=ZP:=by kernel_rfl
theorem aPx:ans 102=aHF:=by kernel_rfl
theorem Vo:ans 104=aN104:=by kernel_rfl
theorem aPy:ans 105=aHG:=by kernel_rfl
theorem aPz:ans 106=aHH:=by kernel_rfl
theorem aPA:ans 107=aHI:=by kernel_rfl
theorem aPB:ans 115=aHJ:=by kernel_rfl
theorem aPC:ans 116=aHK:=by kernel_rfl
theorem aPD:ans 117=aHL:=by kernel_rfl
theorem aPE:ans 118=aHM:=by kernel_rfl
theorem aPF:ans 119=aHN:=by kernel_rfl
theorem aPG:ans 120=aHO:=by kernel_rfl
theorem aPH:ans 121=aHP:=by kernel_rfl
theorem aPI:ans 122=aHQ:=by kernel_rfl
theorem aPJ:ans 123=aHR:=by kernel_rfl
theorem aPK:ans 124=aHS:=by kernel_rfl
theorem aPL:ans 125=aHT:=by kernel_rfl
theorem aPM:ans 126=aHU:=by kernel_rfl
theorem aPN:ans 127=aHV:=by kernel_rfl
theorem aPO:ans 128=aHW:=by kernel_rfl
theorem aPP:ans 129=aHX:=by kernel_rfl
theorem aPQ:ans 130=aHY:=by kernel_rfl
theorem aPR:ans 132=aHZ:=by kernel_rfl
theorem aPS:ans 133=aH0:=by kernel_rfl
theorem aPT:ans 150=aH1:=by kernel_rfl
theorem aPU:ans 158=aH2:=by kernel_rfl
theorem aPV:ans 159=aH3:=by kernel_rfl
theorem aPW:ans 160=aH4:=by kernel_rfl
theorem aPX:ans 161=aH5:=by kernel_rfl
theorem aPY:ans 162=aH6:=by kernel_rfl
theorem aPZ:ans 172=aH7:=by kernel_rfl
theorem aP0:ans 173=aH8:=by kernel_rfl
theorem aP1:ans 174=aH9:=by kernel_rfl
theorem aP2:ans 175=aIa:=by kernel_rfl
theorem aP3:ans 176=aIb:=by kernel_rfl
theorem aP4:ans 177=aIc:=by kernel_rfl
theorem aP5:ans 178=aId:=by kernel_rfl
theorem aP6:ans 179=aIe:=by kernel_rfl
theorem aP7:ans 180=aIf:=by kernel_rfl
theorem aP8:ans 181=aIg:=by kernel_rfl
theorem aP9:ans 182=aIh:=by kernel_rfl
theorem aQa:ans 183=aIi:=by kernel_rfl
theorem aQb:ans 184=aIj:=by kernel_rfl
theorem aQc:ans 185=aIk:=by kernel_rfl
theorem aQd:ans 186=aIl:=by kernel_rfl
theorem aQe:ans 187=aIm:=by kernel_rfl
theorem aQf:ans 188=aIn:=by kernel_rfl
theorem aQg:ans 189=aIo:=by kernel_rfl
theorem aQh:ans 190=aIp:=by kernel_rfl
theorem aQi:ans 191=aIq:=by kernel_rfl
theorem aQj:ans 193=aIr:=by kernel_rfl
theorem aQk:ans 194=aIs:=by kernel_rfl
theorem aQl:ans 195=aIt:=by kernel_rfl
theorem aQm:ans 196=aIu:=by kernel_rfl
theorem aQn:ans 214=aIv:=by kernel_rfl
theorem aQo:ans 216=aIw:=by kernel_rfl
theorem aQp:ans 217=aIx:=by kernel_rfl
theorem aQq:ans 228=aIy:=by kernel_rfl
theorem aQr:ans 229=aIz:=by kernel_rfl
theorem aQs:ans 230=aIA:=by kernel_rfl
theorem aQt:ans 231=aIB:=by kernel_rfl
theorem aQu:ans 232=aIC:=by kernel_rfl
theorem aQv:ans 233=aID:=by kernel_rfl
theorem aQw:ans 234=aIE:=by kernel_rfl
theorem aQx:ans 235=aIF:=by kernel_rfl
theorem aQy:ans 236=aIG:=by kernel_rfl
theorem aQz:ans 237=aIH:=by kernel_rfl
theorem aQA:ans 238=aII:=by kernel_rfl
theorem aQB:ans 239=aIJ:=by kernel_rfl
theorem aQC:ans 240=aIK:=by kernel_rfl
theorem aQD:ans 241=aIL:=by kernel_rfl
theorem aQE:ans 243=aIM:=by kernel_rfl
theorem aQF:ans 252=aIN:=by kernel_rfl
theorem aQG:ans 261=aIO:=by kernel_rfl
theorem aQH:ans 262=aIP:=by kernel_rfl
theorem aQI:ans 263=aIQ:=by kernel_rfl
theorem aQL:ans 370=aIR:=by kernel_rfl
theorem aQM:ans 371=aIS:=by kernel_rfl
theorem aQN:ans 372=aIT:=by kernel_rfl
end Go.Proofs.YtoiocfngjchdiaaGreatDoor
namespace Go.AM
section
variable {P:Program}{w:World}
structure Is (o:Oper) (d:Option Nat) (op:Op):Prop where
 dst:o.dst=d
 op:o.op=op
 gd:o.guard=none
theorem Is.eq{o:Oper}{d:Option Nat}{op:Op}(h:Is o d op):o=⟨d,op,o.type,o.pos,o.after,none⟩:=by
 cases o;cases h;simp_all
section
variable {b:Frame}{tm:Array Value}{ds:List Deferred}{k:List Item}{cs:List Frame}{ops:Array Oper}{i:Nat}{rest:List Nat}{o:Oper}{w':World}{d:Option Nat}{op:Op}
theorem aHi(ho:ops[i]?=some o)(hI:Is o none op)(hd:∀c,op≠.defer c)(hr:(execOp (⟨tm,ds⟩:Act).eval ⟨none,op,o.type,o.pos,o.after,none⟩).run P w=.ok .skip w') :
  Steps P (lone (b.atR ⟨tm,ds⟩ (.inRegion ops (i::rest)::k)) cs w) (lone (b.atR ⟨tm,ds⟩ (.inRegion ops rest::k)) cs w'):=by
 have h1:(execOp (⟨tm,ds⟩:Act).eval o).run P w=.ok .skip w':=by rw[hI.eq];exact hr
 have:=Steps.one (eS (b:=b) (a:=⟨tm,ds⟩) (k:=k) (cs:=cs) (rest:=rest) ho (by unfold Region.wanted;rw[hI.gd]) (by rw[hI.op];exact hd) h1)
 rw[hI.dst] at this;exact this
end
end
section
open Go.RowKit
variable {P:Program}{ans:FuncId->AF}{B0:Nat}
def PureOK(P:Program)(f:FuncId)(args:List AVal)(res:AVal):Prop :=
 (∃F,P.funcs[f]?=some F/\F.body.isSome=true)/\∀(w:World)(Ψ:HT)(vs:Array Value),WSat Ψ w->args.length=vs.size->(∀(i:Nat) a,args[i]?=some a->VRel Ψ [] a (vs.getD i undef)) ->
  ∀c cs,∃w' Z' v,Fr w Ψ (λ_=>none) w' Z' (λ_=>none)/\WSat Z' w'/\VRel Z' [] res v/\Steps P (lone (Frame.enter P f vs .normal) (c::cs) w) (lone (c.finish v) cs w')
theorem PureOK.prim{f:FuncId}{args:List AVal}{res:AVal}(h:PureOK P f args res)(hl:∀a∈args,lok 0 a=true):(∃F,P.funcs[f]?=some F/\F.body.isSome=true) /\
  ∀sto w Ψ J ow vs,dR ans B0 w Ψ J ow (args.map .val) vs sto->∀c cs,dS P ans B0 w Ψ J ow sto c cs (lone (Frame.enter P f vs .normal) (c::cs) w) (.ret (.val res)) sto:=by
 refine⟨h.1,λsto w Ψ J ow vs hp c cs=>?_⟩
 obtain⟨w',Z',v,hf,hw,hv,hs⟩:=h.2 w Ψ vs hp.wsat (by simpa using hp.size) (λi a ha=>by
  have h1:=hp.args i (.val a) (by simp[ha]);have h2:=hl a (Ba ha);cases h1 with
  |val _ _ h1=>simpa using h1.lok h2) c cs
 have DS:Fr w Ψ ow w' Z' ow:=⟨hf.le,hf.size,λb hb _=>hf.keep b hb rfl,λb hb=>.inl hb,hf.os,hf.tape,hf.output⟩
 refine⟨w',Z',J,ow,DS,aG _,hw,hp.objs.mono hf.le λi _ b s hb=>?_,λb hb=>Bt (hp.lt b hb) hf.size,⟨rfl,Af _,λ_ _=>rfl⟩,rfl,v,.val _ _ (hv.mono (HT.le_refl _) (pre_nil _)),hs⟩;have BB:=hp.lt b (by simp[hb])
 have:=hf.keep b BB rfl
 exact⟨hb,this.1,λo ho=>by rw[this.2 o];exact ho⟩
theorem aB1{w:World}{Ψ:HT}{args:List Slot}{vs:Array Value}(hw:WSat Ψ w)(hl:args.length=vs.size)(hf:∀s∈args,s.free=true)(ha:∀(i:Nat) s,args[i]?=some s->SRel w w.heap.size Ψ [] (λ_=>none) #[] i s (vs.getD i undef)):dR ans w.heap.size w Ψ [] (λ_=>none) args vs ⟨[],0⟩ :=
 ⟨hw,Af _,λb h=>absurd rfl h,hl,hf,ha,⟨rfl,λi o h=>by simp at h⟩,Af _⟩
theorem zg{w:World}{Ψ:HT}{c:Frame}{cs:List Frame}{m:Machine}{res:AVal}(h:dS P ans w.heap.size w Ψ [] (λ_=>none) ⟨[],0⟩ c cs m (.ret (.val res)) ⟨[],0⟩) :
  ∃w' Z' v,Fr w Ψ (λ_=>none) w' Z' (λ_=>none)/\WSat Z' w'/\VRel Z' [] res v/\Steps P m (lone (c.finish v) cs w'):=by
 obtain⟨w',Z',J',AQ,hf,_,hw,ho,_,_,_,v,hs,A7⟩:=h;have hρ:J'=[]:=Dn.1 ho.1;subst hρ;refine⟨w',Z',v,⟨hf.le,hf.size,hf.keep,λb hb=>absurd rfl hb,hf.os,hf.tape,hf.output⟩,hw,?_,A7⟩;cases hs with
 |val _ _ h=>exact h
theorem PureOK.ofRun{Pn:FuncId->AF}{Wo:fY}(E:∀B0,Env P Pn B0 Wo){f:FuncId}{args:List AVal}{res:AVal}(e:GC P Pn Wo (.fn f) (args.map .val) ⟨[],0⟩=some (.ret (.val res),⟨[],0⟩)):PureOK P f args res:=by
 obtain⟨n,hn⟩:=gQ.1 e;have key:=λB0=>(wW (E B0) n).1.fn f _ _ _ _ hn
 obtain⟨F,h1,h2,_⟩:=(key 0).1;refine⟨⟨F,h1,h2⟩,λw Ψ vs hw hl ha c cs=>?_⟩;refine zg ((key w.heap.size).2 w Ψ [] (λ_=>none) vs (aB1 hw (by simpa using hl) (λs hs=>?_) (λi s hs=>?_)) c cs)
 ·obtain⟨a,_,rfl⟩:=Cm.1 hs;rfl
 ·rw[Av,Ap] at hs
  obtain⟨a,KC,rfl⟩:=hs;exact .val _ _ (ha i a KC)
theorem gJ{w w':World}{Ψ:HT}(hw:WSat Ψ w)(hb:Below w.heap.size w w'):WSat Ψ w':=⟨Bg hw.size8 hb.size,λb o c e=>by
 obtain⟨h1,v,h2,h3⟩:=hw.sat b o c e;exact⟨h1,v,(cell_congr (hb.block b (hw.lt e)) o).trans h2,h3⟩⟩
theorem pG{w w':World}{Ψ:HT}(hb:Below w.heap.size w w'):Fr w Ψ (λ_=>none) w' Ψ (λ_=>none) :=
 ⟨HT.le_refl _,hb.size,λb h _=>⟨hb.block b h,λ_=>rfl⟩,λb h=>absurd rfl h,hb.os,hb.tape,hb.output⟩
theorem mR{f:FuncId}{vs:Array Value}{w:World}{R:Value->World->Prop}(h:Calls P f vs w λe w'=>∃v,e=.returned v/\R v w')(c:Frame)(cs:List Frame) :
  ∃w' v,R v w'/\Steps P (lone (Frame.enter P f vs .normal) (c::cs) w) (lone (c.finish v) cs w'):=by
 obtain⟨e,w',fr,⟨v,rfl,hr⟩,hc,_,hl⟩:=h (c::cs);exact⟨w',v,hr,Steps.trans hc (.one (step_leave_returned hl))⟩
def PureT(P:Program)(f:FuncId)(args res:List AVal):Prop :=
 (∃F,P.funcs[f]?=some F/\F.body.isSome=true)/\∀(w:World)(Ψ:HT)(vs:Array Value),WSat Ψ w->args.length=vs.size->(∀(i:Nat) a,args[i]?=some a->VRel Ψ [] a (vs.getD i undef)) ->
  ∀c cs,∃w' Z' us,Fr w Ψ (λ_=>none) w' Z' (λ_=>none)/\WSat Z' w'/\res.length=us.length/\(∀(i:Nat) x u,res[i]?=some x->us[i]?=some u->VRel Z' [] x u)/\Steps P (lone (Frame.enter P f vs .normal) (c::cs) w) (lone (c.finish (.tuple ⟨us⟩)) cs w')
theorem PureT.prim{f:FuncId}{args res:List AVal}(h:PureT P f args res)(hl:∀a∈args,lok 0 a=true):(∃F,P.funcs[f]?=some F/\F.body.isSome=true) /\
  ∀sto w Ψ J ow vs,dR ans B0 w Ψ J ow (args.map .val) vs sto->∀c cs,dS P ans B0 w Ψ J ow sto c cs (lone (Frame.enter P f vs .normal) (c::cs) w) (.ret (.tup res)) sto:=by
 refine⟨h.1,λsto w Ψ J ow vs hp c cs=>?_⟩
 obtain⟨w',Z',us,hf,hw,hlen,hv,hs⟩:=h.2 w Ψ vs hp.wsat (by simpa using hp.size) (λi a ha=>by
  have h1:=hp.args i (.val a) (by simp[ha]);have h2:=hl a (Ba ha);cases h1 with
  |val _ _ h1=>simpa using h1.lok h2) c cs
 have DS:Fr w Ψ ow w' Z' ow:=⟨hf.le,hf.size,λb hb _=>hf.keep b hb rfl,λb hb=>.inl hb,hf.os,hf.tape,hf.output⟩
 refine⟨w',Z',J,ow,DS,aG _,hw,hp.objs.mono hf.le λi _ b s hb=>?_,λb hb=>Bt (hp.lt b hb) hf.size,⟨rfl,Af _,λ_ _=>rfl⟩,rfl,_,.tup _ _ hlen (λi x u h1 h2=>(hv i x u h1 h2).mono (HT.le_refl _) (pre_nil _)),hs⟩;have BB:=hp.lt b (by simp[hb])
 have:=hf.keep b BB rfl
 exact⟨hb,this.1,λo ho=>by rw[this.2 o];exact ho⟩
end
end Go.AM
