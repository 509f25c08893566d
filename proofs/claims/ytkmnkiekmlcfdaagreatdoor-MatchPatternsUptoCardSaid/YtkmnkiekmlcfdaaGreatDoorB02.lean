/- Part B02 of the proof of one law of the program. -/
import Derived.Test.YtkmnkiekmlcfdaaGreatDoorB01
import Derived.KernelRfl
set_option linter.all false
section
namespace Go.Proofs.YtkmnkiekmlcfdaaGreatDoor
open Go.AM
theorem by1:bytesAt Tryz.prog 1=8:=by kernel_rfl
theorem sz3:szOf Tryz.prog 3=some 1:=by kernel_rfl
theorem ag3:aggOf Tryz.prog 3=some false:=by kernel_rfl
theorem zo3:zeroOf Tryz.prog 3=some (AVal.int IntKind.i64 0):=by kernel_rfl
theorem by3:bytesAt Tryz.prog 3=8:=by kernel_rfl
theorem sz4:szOf Tryz.prog 4=some 1:=by kernel_rfl
theorem ag4:aggOf Tryz.prog 4=some false:=by kernel_rfl
theorem zo4:zeroOf Tryz.prog 4=some (AVal.bool false):=by kernel_rfl
theorem zc4:zeroCells Tryz.prog 4=some [Cell.val (AVal.bool false)]:=by kernel_rfl
theorem sz9:szOf Tryz.prog 9=some 1:=by kernel_rfl
theorem ag9:aggOf Tryz.prog 9=some false:=by kernel_rfl
theorem zo9:zeroOf Tryz.prog 9=some (AVal.str []):=by kernel_rfl
theorem by9:bytesAt Tryz.prog 9=16:=by kernel_rfl
theorem sz22:szOf Tryz.prog 22=some 1:=by kernel_rfl
theorem ag22:aggOf Tryz.prog 22=some false:=by kernel_rfl
theorem sz23:szOf Tryz.prog 23=some 1:=by kernel_rfl
theorem ag23:aggOf Tryz.prog 23=some false:=by kernel_rfl
theorem se23:sliceElem Tryz.prog 23=some 25:=by kernel_rfl
theorem sz25:szOf Tryz.prog 25=some 2:=by kernel_rfl
theorem ag25:aggOf Tryz.prog 25=some true:=by kernel_rfl
theorem zo25:zeroOf Tryz.prog 25=some (AVal.agg [AVal.str [],AVal.slice []]):=by kernel_rfl
theorem zc25:zeroCells Tryz.prog 25=some [Cell.val (AVal.str []),Cell.own 2 []]:=by kernel_rfl
theorem by25:bytesAt Tryz.prog 25=40:=by kernel_rfl
theorem pl25:(([{ name:= "Name",type:=9,offset:=0,embedded:=false,tag:= "",pkgPath:= "",byteOffset:=0 },{ name:= "Args",type:=23,offset:=1,embedded:=false,tag:= "",pkgPath:= "",byteOffset:=16 }]:List Field).mapM fun f=>(Tryz.prog.info? f.type).map fun i=>(f.offset,i.size))=some [(0,1),(1,1)]:=by kernel_rfl
theorem sz26:szOf Tryz.prog 26=some 1:=by kernel_rfl
theorem ag26:aggOf Tryz.prog 26=some false:=by kernel_rfl
theorem se26:sliceElem Tryz.prog 26=some 30:=by kernel_rfl
theorem sz28:szOf Tryz.prog 28=some 4:=by kernel_rfl
theorem sz30:szOf Tryz.prog 30=some 3:=by kernel_rfl
theorem ag30:aggOf Tryz.prog 30=some true:=by kernel_rfl
theorem zo30:zeroOf Tryz.prog 30=some (AVal.agg [AVal.int IntKind.i64 0,AVal.str [],AVal.slice []]):=by kernel_rfl
theorem zc30:zeroCells Tryz.prog 30=some [Cell.val (AVal.int IntKind.i64 0),Cell.val (AVal.str []),Cell.own 3 []]:=by kernel_rfl
theorem by30:bytesAt Tryz.prog 30=48:=by kernel_rfl
theorem pl30:(([{ name:= "Kind",type:=3,offset:=0,embedded:=false,tag:= "",pkgPath:= "",byteOffset:=0 },{ name:= "Name",type:=9,offset:=1,embedded:=false,tag:= "",pkgPath:= "",byteOffset:=8 },{ name:= "Args",type:=26,offset:=2,embedded:=false,tag:= "",pkgPath:= "",byteOffset:=24 }]:List Field).mapM fun f=>(Tryz.prog.info? f.type).map fun i=>(f.offset,i.size))=some [(0,1),(1,1),(2,1)]:=by kernel_rfl
theorem sz31:szOf Tryz.prog 31=some 1:=by kernel_rfl
theorem ag31:aggOf Tryz.prog 31=some false:=by kernel_rfl
theorem zc31:zeroCells Tryz.prog 31=some [Cell.val (AVal.int IntKind.i64 0)]:=by kernel_rfl
theorem sz36:szOf Tryz.prog 36=some 1:=by kernel_rfl
theorem ag36:aggOf Tryz.prog 36=some false:=by kernel_rfl
theorem se36:sliceElem Tryz.prog 36=some 3:=by kernel_rfl
theorem sz45:szOf Tryz.prog 45=some 1:=by kernel_rfl
theorem ag45:aggOf Tryz.prog 45=some false:=by kernel_rfl
theorem se45:sliceElem Tryz.prog 45=some 47:=by kernel_rfl
theorem sz47:szOf Tryz.prog 47=some 3:=by kernel_rfl
theorem ag47:aggOf Tryz.prog 47=some true:=by kernel_rfl
theorem zo47:zeroOf Tryz.prog 47=some (AVal.agg [AVal.str [],AVal.int IntKind.i64 0,AVal.slice []]):=by kernel_rfl
theorem zc47:zeroCells Tryz.prog 47=some [Cell.val (AVal.str []),Cell.val (AVal.int IntKind.i64 0),Cell.own 3 []]:=by kernel_rfl
theorem by47:bytesAt Tryz.prog 47=48:=by kernel_rfl
theorem pl47:(([{ name:= "Con",type:=9,offset:=0,embedded:=false,tag:= "",pkgPath:= "",byteOffset:=0 },{ name:= "Num",type:=3,offset:=1,embedded:=false,tag:= "",pkgPath:= "",byteOffset:=16 },{ name:= "Args",type:=45,offset:=2,embedded:=false,tag:= "",pkgPath:= "",byteOffset:=24 }]:List Field).mapM fun f=>(Tryz.prog.info? f.type).map fun i=>(f.offset,i.size))=some [(0,1),(1,1),(2,1)]:=by kernel_rfl
theorem sz52:szOf Tryz.prog 52=some 4:=by kernel_rfl
theorem sz58:szOf Tryz.prog 58=some 1:=by kernel_rfl
theorem ag58:aggOf Tryz.prog 58=some false:=by kernel_rfl
theorem se58:sliceElem Tryz.prog 58=some 61:=by kernel_rfl
theorem sz61:szOf Tryz.prog 61=some 2:=by kernel_rfl
theorem ag61:aggOf Tryz.prog 61=some true:=by kernel_rfl
theorem zo61:zeroOf Tryz.prog 61=some (AVal.agg [AVal.str [],AVal.slice []]):=by kernel_rfl
theorem zc61:zeroCells Tryz.prog 61=some [Cell.val (AVal.str []),Cell.own 2 []]:=by kernel_rfl
theorem by61:bytesAt Tryz.prog 61=40:=by kernel_rfl
theorem pl61:(([{ name:= "Name",type:=9,offset:=0,embedded:=false,tag:= "",pkgPath:= "",byteOffset:=0 },{ name:= "Args",type:=23,offset:=1,embedded:=false,tag:= "",pkgPath:= "",byteOffset:=16 }]:List Field).mapM fun f=>(Tryz.prog.info? f.type).map fun i=>(f.offset,i.size))=some [(0,1),(1,1)]:=by kernel_rfl
theorem sz66:szOf Tryz.prog 66=some 1:=by kernel_rfl
theorem ag66:aggOf Tryz.prog 66=some false:=by kernel_rfl
theorem se66:sliceElem Tryz.prog 66=some 70:=by kernel_rfl
theorem sz70:szOf Tryz.prog 70=some 2:=by kernel_rfl
theorem ag70:aggOf Tryz.prog 70=some true:=by kernel_rfl
theorem zo70:zeroOf Tryz.prog 70=some (AVal.agg [AVal.str [],AVal.slice []]):=by kernel_rfl
theorem zc70:zeroCells Tryz.prog 70=some [Cell.val (AVal.str []),Cell.own 1 []]:=by kernel_rfl
theorem by70:bytesAt Tryz.prog 70=40:=by kernel_rfl
theorem pl70:(([{ name:= "Name",type:=9,offset:=0,embedded:=false,tag:= "",pkgPath:= "",byteOffset:=0 },{ name:= "Path",type:=36,offset:=1,embedded:=false,tag:= "",pkgPath:= "",byteOffset:=16 }]:List Field).mapM fun f=>(Tryz.prog.info? f.type).map fun i=>(f.offset,i.size))=some [(0,1),(1,1)]:=by kernel_rfl
theorem sz72:szOf Tryz.prog 72=some 1:=by kernel_rfl
theorem ag72:aggOf Tryz.prog 72=some false:=by kernel_rfl
theorem se72:sliceElem Tryz.prog 72=some 9:=by kernel_rfl
theorem zc72:zeroCells Tryz.prog 72=some [Cell.own 1 []]:=by kernel_rfl
theorem sz78:szOf Tryz.prog 78=some 3:=by kernel_rfl
theorem ag78:aggOf Tryz.prog 78=some true:=by kernel_rfl
theorem zc78:zeroCells Tryz.prog 78=some [Cell.val (AVal.int IntKind.i64 0),Cell.own 1 [],Cell.own 4 []]:=by kernel_rfl
theorem sz116:szOf Tryz.prog 116=some 3:=by kernel_rfl
theorem ag116:aggOf Tryz.prog 116=some true:=by kernel_rfl
theorem zc116:zeroCells Tryz.prog 116=some [Cell.val (AVal.str []),Cell.own 1 [],Cell.own 2 []]:=by kernel_rfl
theorem pl116:(([{ name:= "Name",type:=9,offset:=0,embedded:=false,tag:= "",pkgPath:= "",byteOffset:=0 },{ name:= "Vars",type:=72,offset:=1,embedded:=false,tag:= "",pkgPath:= "",byteOffset:=16 },{ name:= "Cons",type:=58,offset:=2,embedded:=false,tag:= "",pkgPath:= "",byteOffset:=40 }]:List Field).mapM fun f=>(Tryz.prog.info? f.type).map fun i=>(f.offset,i.size))=some [(0,1),(1,1),(2,1)]:=by kernel_rfl
theorem sz119:szOf Tryz.prog 119=some 1:=by kernel_rfl
theorem ag119:aggOf Tryz.prog 119=some false:=by kernel_rfl
theorem zc119:zeroCells Tryz.prog 119=some [Cell.val AVal.nilfunc]:=by kernel_rfl
theorem sz145:szOf Tryz.prog 145=some 1:=by kernel_rfl
theorem ag145:aggOf Tryz.prog 145=some false:=by kernel_rfl
theorem zc145:zeroCells Tryz.prog 145=some [Cell.val AVal.nilmap]:=by kernel_rfl
theorem sz147:szOf Tryz.prog 147=some 1:=by kernel_rfl
theorem ag147:aggOf Tryz.prog 147=some false:=by kernel_rfl
theorem sz148:szOf Tryz.prog 148=some 1:=by kernel_rfl
theorem ag148:aggOf Tryz.prog 148=some false:=by kernel_rfl
theorem zc148:zeroCells Tryz.prog 148=some [Cell.val AVal.nilfunc]:=by kernel_rfl
theorem sz190:szOf Tryz.prog 190=some 1:=by kernel_rfl
theorem ag190:aggOf Tryz.prog 190=some false:=by kernel_rfl
theorem sz191:szOf Tryz.prog 191=some 1:=by kernel_rfl
theorem ag191:aggOf Tryz.prog 191=some false:=by kernel_rfl
theorem se191:sliceElem Tryz.prog 191=some 197:=by kernel_rfl
theorem zc191:zeroCells Tryz.prog 191=some [Cell.own 4 []]:=by kernel_rfl
theorem sz193:szOf Tryz.prog 193=some 2:=by kernel_rfl
theorem zc193:zeroCells Tryz.prog 193=some [Cell.val (AVal.int IntKind.i64 0),Cell.val (AVal.int IntKind.i64 0)]:=by kernel_rfl
theorem pl193:(([{ name:= "at",type:=3,offset:=0,embedded:=false,tag:= "",pkgPath:= "restitch/lex",byteOffset:=0 },{ name:= "e",type:=31,offset:=1,embedded:=false,tag:= "",pkgPath:= "restitch/lex",byteOffset:=8 }]:List Field).mapM fun f=>(Tryz.prog.info? f.type).map fun i=>(f.offset,i.size))=some [(0,1),(1,1)]:=by kernel_rfl
theorem sz197:szOf Tryz.prog 197=some 4:=by kernel_rfl
theorem ag197:aggOf Tryz.prog 197=some true:=by kernel_rfl
theorem zo197:zeroOf Tryz.prog 197=some (AVal.agg [AVal.int IntKind.i64 0,AVal.int IntKind.i64 0,AVal.str [],AVal.int IntKind.i64 0]):=by kernel_rfl
theorem zc197:zeroCells Tryz.prog 197=some [Cell.val (AVal.int IntKind.i64 0),Cell.val (AVal.int IntKind.i64 0),Cell.val (AVal.str []),Cell.val (AVal.int IntKind.i64 0)]:=by kernel_rfl
theorem by197:bytesAt Tryz.prog 197=40:=by kernel_rfl
theorem pl197:(([{ name:= "Kind",type:=3,offset:=0,embedded:=false,tag:= "",pkgPath:= "",byteOffset:=0 },{ name:= "Num",type:=3,offset:=1,embedded:=false,tag:= "",pkgPath:= "",byteOffset:=8 },{ name:= "Text",type:=9,offset:=2,embedded:=false,tag:= "",pkgPath:= "",byteOffset:=16 },{ name:= "At",type:=3,offset:=3,embedded:=false,tag:= "",pkgPath:= "",byteOffset:=32 }]:List Field).mapM fun f=>(Tryz.prog.info? f.type).map fun i=>(f.offset,i.size))=some [(0,1),(1,1),(2,1),(3,1)]:=by kernel_rfl
theorem sz207:szOf Tryz.prog 207=some 2:=by kernel_rfl
theorem sz208:szOf Tryz.prog 208=some 1:=by kernel_rfl
theorem ag208:aggOf Tryz.prog 208=some false:=by kernel_rfl
theorem sz209:szOf Tryz.prog 209=some 1:=by kernel_rfl
theorem ag209:aggOf Tryz.prog 209=some false:=by kernel_rfl
theorem se209:sliceElem Tryz.prog 209=some 223:=by kernel_rfl
theorem sz223:szOf Tryz.prog 223=some 2:=by kernel_rfl
theorem zo223:zeroOf Tryz.prog 223=some (AVal.agg [AVal.int IntKind.i64 0,AVal.int IntKind.i64 0]):=by kernel_rfl
theorem zc223:zeroCells Tryz.prog 223=some [Cell.val (AVal.int IntKind.i64 0),Cell.val (AVal.int IntKind.i64 0)]:=by kernel_rfl
theorem by223:bytesAt Tryz.prog 223=16:=by kernel_rfl
theorem pl223:(([{ name:= "from",type:=3,offset:=0,embedded:=false,tag:= "",pkgPath:= "restitch/lex",byteOffset:=0 },{ name:= "to",type:=3,offset:=1,embedded:=false,tag:= "",pkgPath:= "restitch/lex",byteOffset:=8 }]:List Field).mapM fun f=>(Tryz.prog.info? f.type).map fun i=>(f.offset,i.size))=some [(0,1),(1,1)]:=by kernel_rfl
theorem fd25_0:fieldAt? Tryz.prog 25 0=some (0,9):=by kernel_rfl
theorem fd25_1:fieldAt? Tryz.prog 25 1=some (1,23):=by kernel_rfl
theorem fd28_0:fieldAt? Tryz.prog 28 0=some (0,22):=by kernel_rfl
theorem fd28_1:fieldAt? Tryz.prog 28 1=some (1,25):=by kernel_rfl
theorem fd28_2:fieldAt? Tryz.prog 28 2=some (3,26):=by kernel_rfl
theorem fd30_0:fieldAt? Tryz.prog 30 0=some (0,3):=by kernel_rfl
theorem fd30_1:fieldAt? Tryz.prog 30 1=some (1,9):=by kernel_rfl
theorem fd30_2:fieldAt? Tryz.prog 30 2=some (2,26):=by kernel_rfl
theorem fd47_0:fieldAt? Tryz.prog 47 0=some (0,9):=by kernel_rfl
theorem fd47_1:fieldAt? Tryz.prog 47 1=some (1,3):=by kernel_rfl
theorem fd47_2:fieldAt? Tryz.prog 47 2=some (2,45):=by kernel_rfl
theorem fd52_1:fieldAt? Tryz.prog 52 1=some (1,47):=by kernel_rfl
theorem fd61_0:fieldAt? Tryz.prog 61 0=some (0,9):=by kernel_rfl
theorem fd61_1:fieldAt? Tryz.prog 61 1=some (1,23):=by kernel_rfl
theorem fd70_0:fieldAt? Tryz.prog 70 0=some (0,9):=by kernel_rfl
theorem fd70_1:fieldAt? Tryz.prog 70 1=some (1,36):=by kernel_rfl
theorem fd116_0:fieldAt? Tryz.prog 116 0=some (0,9):=by kernel_rfl
theorem fd116_1:fieldAt? Tryz.prog 116 1=some (1,72):=by kernel_rfl
theorem fd116_2:fieldAt? Tryz.prog 116 2=some (2,58):=by kernel_rfl
theorem fd193_1:fieldAt? Tryz.prog 193 1=some (1,31):=by kernel_rfl
theorem fd197_0:fieldAt? Tryz.prog 197 0=some (0,3):=by kernel_rfl
theorem fd197_2:fieldAt? Tryz.prog 197 2=some (2,9):=by kernel_rfl
theorem fd207_0:fieldAt? Tryz.prog 207 0=some (0,9):=by kernel_rfl
theorem fd207_1:fieldAt? Tryz.prog 207 1=some (1,3):=by kernel_rfl
theorem fd211_0:fieldAt? Tryz.prog 211 0=some (0,207):=by kernel_rfl
theorem fd211_1:fieldAt? Tryz.prog 211 1=some (2,208):=by kernel_rfl
end Go.Proofs.YtkmnkiekmlcfdaaGreatDoor
end
section
namespace Go.Proofs.YtkmnkiekmlcfdaaGreatDoor
open Go.AM
theorem an7:ans 7={ nt:=142,keep:=[0,1,2,3,4,5,6,7,8,9,10,11,12,13,14,34,38,77,98],loc:=[2,3],heads:=[(6,[(2,none),(3,none),(5,none),(7,none),(9,none)]),(10,[(2,none),(3,none),(5,none),(7,none),(9,none),(10,none),(11,none)])] }:=by kernel_rfl
theorem an13:ans 13={ nt:=160,keep:=[0,1,2,3,4,5,6,8,9,10,11,12,13,14,15,16,17,18,19],loc:=[3,4,7,10] }:=by kernel_rfl
theorem an29:ans 29={ nt:=178,keep:=[0,2,3,4,5,6,7,8,9,10,11,12,15,21,50,60,82,87,117,130,140,155,177],loc:=[6],take:=[(11,0),(22,0)],heads:=[(6,[(0,none),(3,none),(4,none),(5,none)]),(13,[(0,none),(3,none),(4,none),(5,none),(6,none),(7,none)]),(18,[(0,none),(3,none),(4,none),(5,none),(6,none),(8,none)]),(24,[(0,none),(9,none)]),(27,[(0,none),(9,none),(10,none)]),(31,[(0,none),(9,none),(10,none),(11,none),(12,none)])] }:=by kernel_rfl
theorem an30:ans 30={ nt:=14,keep:=[0,1,3,4,13],loc:=[3] }:=by kernel_rfl
theorem an31:ans 31={ nt:=14,keep:=[0,1,3,4,13],loc:=[3] }:=by kernel_rfl
theorem an32:ans 32={ nt:=14,keep:=[0,1,2,3,4,7],loc:=[1] }:=by kernel_rfl
theorem an33:ans 33={ nt:=11,keep:=[0,1,2,3,5,8],loc:=[1] }:=by kernel_rfl
theorem an34:ans 34={ nt:=31,keep:=[0,1,4,5,6,18],heads:=[(3,[(0,none),(1,none),(5,none),(6,none)])] }:=by kernel_rfl
theorem an35:ans 35={ nt:=17,keep:=[0,1,2,3,4,6,7,10],loc:=[1,4],take:=[(5,0)] }:=by kernel_rfl
theorem an36:ans 36={ nt:=23,keep:=[0,1,2,3,4,5,11],loc:=[1],take:=[(6,0)],heads:=[(4,[(3,none),(4,none),(5,none)])] }:=by kernel_rfl
theorem an37:ans 37={ nt:=18,keep:=[0,1,2,4,5,6,7,12],loc:=[4,5] }:=by kernel_rfl
theorem an38:ans 38={ nt:=15,keep:=[0,1,2,4,5,6,10],loc:=[4,5] }:=by kernel_rfl
theorem an39:ans 39={ nt:=40,keep:=[0,1,2,4,6,7,9,10,15,17,20,24,25,26,27,31,37],loc:=[4,9],heads:=[(9,[(0,none),(4,none),(24,none),(25,none),(26,none)])] }:=by kernel_rfl
theorem an40:ans 40={ nt:=45,keep:=[0,1,2,4,6,7,8,12,20,23,27,34,43],loc:=[4],heads:=[(8,[(0,none),(2,none),(4,none),(7,none)])] }:=by kernel_rfl
theorem an55:ans 55={ nt:=27,keep:=[0,1,2,4,5,6,7,8,10,15,18,19,23],loc:=[4,5,8] }:=by kernel_rfl
theorem an56:ans 56={ nt:=9,keep:=[0,1,4] }:=by kernel_rfl
theorem an59:ans 59={ nt:=6,keep:=[0,1,2,3,4] }:=by kernel_rfl
theorem an60:ans 60={ nt:=17,keep:=[0,1,2,4,5,6,8,13,16],loc:=[4,5] }:=by kernel_rfl
theorem an61:ans 61={ nt:=29,keep:=[0,1,3,4,5,8,18],loc:=[3],take:=[(2,0),(6,0),(7,0),(7,1)],heads:=[(4,[(0,none),(3,none),(5,none)])],ownRes:=true,ownArg:=[0] }:=by kernel_rfl
theorem an64:ans 64={ nt:=19,keep:=[0,1,4,5,7,8,9,16],heads:=[(2,[(0,none),(1,none),(7,none),(8,none)])] }:=by kernel_rfl
theorem an68:ans 68={ nt:=27,keep:=[0,1,2,3,5,12,13,14,15],loc:=[1,2,3,5],take:=[(5,1)],heads:=[(3,[(2,none),(3,none),(12,none),(13,none),(14,none)])],prim:=true }:=by kernel_rfl
theorem an71:ans 71={ nt:=61,keep:=[0,1,2,3,5,8,9,16,20,42],loc:=[5],take:=[(2,0),(2,1),(4,0),(8,0),(9,0),(9,1)],heads:=[(6,[(0,none),(2,none),(3,none),(5,none),(9,none)])],ownRes:=true,ownArg:=[0] }:=by kernel_rfl
theorem an72:ans 72={ nt:=15,keep:=[0,1,2,6] }:=by kernel_rfl
theorem an73:ans 73={ nt:=70,keep:=[0,1,3,4,5,6,7,8,10,11,13,16,36,39,40,41,42,49,50,51,52],loc:=[10,11,13],take:=[(15,1),(17,0)],heads:=[(9,[(7,none),(8,none),(39,none),(40,none),(41,none)]),(13,[(7,none),(8,none),(11,none),(39,none),(40,none),(41,none),(49,none),(50,none),(51,none)])] }:=by kernel_rfl
theorem an75:ans 75={ nt:=76,keep:=[0,1,3,4,5,6,7,8,9,10,13,26,31,49],loc:=[3,5,9],take:=[(14,1),(15,0)],heads:=[(8,[(3,none),(5,none),(7,none),(8,none)]),(12,[(3,none),(5,none),(7,none),(8,none),(9,none),(10,none)])] }:=by kernel_rfl
theorem an76:ans 76={ nt:=133,keep:=[0,2,3,4,6,8,9,11,12,14,16,19,20,21,22,23,57,59,60,61,62,73,95,96,97,98,99,104,105,106,107,111,112,113,114,129],loc:=[6,8,14,16],take:=[(7,0),(13,0)],heads:=[(5,[(0,none),(3,none),(4,none),(20,none),(21,none),(22,none)]),(11,[(0,none),(3,none),(4,none),(20,none),(21,none),(22,none),(59,none),(60,none),(61,none)]),(22,[(0,none),(96,none),(97,none),(98,none)]),(26,[(0,none),(12,none),(96,none),(97,none),(98,none),(104,none),(105,none),(106,none)]),(29,[(0,none),(12,none),(96,none),(97,none),(98,none),(104,none),(105,none),(106,none),(111,none),(112,none),(113,none)])] }:=by kernel_rfl
theorem an77:ans 77={ nt:=74,keep:=[0,1,2,6,7,8,28,38,44,55,61,73],heads:=[(4,[(0,none),(7,none)]),(11,[(0,none),(8,none)])] }:=by kernel_rfl
theorem an78:ans 78={ nt:=18,keep:=[0,1,4,5,9,17],heads:=[(2,[(0,none),(1,none),(5,none)])] }:=by kernel_rfl
theorem an79:ans 79={ nt:=38,keep:=[0,2,3,26,30,37],heads:=[(4,[(0,none),(3,none)])] }:=by kernel_rfl
theorem an80:ans 80={ nt:=102,keep:=[0,1,2,3,4,6,10,11,12,13,15,25,45,63,64,70,75,76,82,87,101],loc:=[6,11],heads:=[(18,[(0,none),(2,none),(3,none),(4,none),(6,none),(13,none)])] }:=by kernel_rfl
theorem an81:ans 81={ nt:=49,keep:=[0,1,2,3,4,9,48],loc:=[1],heads:=[(2,[(1,none),(3,none)])] }:=by kernel_rfl
theorem an82:ans 82={ nt:=68,keep:=[0,1,2,3,4,5,6,7,8,10,28,29,41,48,49,62],loc:=[4,7] }:=by kernel_rfl
theorem an83:ans 83={ nt:=13,keep:=[0,1,2,3,4],loc:=[2] }:=by kernel_rfl
theorem an84:ans 84={ nt:=11,keep:=[0,2] }:=by kernel_rfl
theorem an85:ans 85={ nt:=5,keep:=[0,2] }:=by kernel_rfl
theorem an86:ans 86={ nt:=23,keep:=[0,1,2,4,5,7,12,22],loc:=[2],heads:=[(4,[(1,none),(2,none),(5,none)])] }:=by kernel_rfl
theorem an87:ans 87={ nt:=31,keep:=[0,1,2,4,5,6,16],loc:=[2],heads:=[(3,[(1,none),(2,none),(5,none),(6,none)])] }:=by kernel_rfl
theorem an88:ans 88={ nt:=25,keep:=[0,2,3,4,12],heads:=[(3,[(0,none),(3,none),(4,none)])] }:=by kernel_rfl
theorem an101:ans 101={ nt:=76,keep:=[0,1,2,4,5,6,8,9,10,12,13,24,35,39,40,41,42,49,56,58,59,60,61,73],loc:=[4,5,8,10],heads:=[(8,[(0,none),(5,none),(39,none),(40,none),(41,none)]),(14,[(0,none),(8,none),(58,none),(59,none),(60,none)])] }:=by kernel_rfl
theorem an104:ans 104={ nt:=10,keep:=[0,1,2,3,4] }:=by kernel_rfl
theorem an105:ans 105={ nt:=53,keep:=[0,1,2,3,4,5,8,9,10,12,25,28,30,31,32,33,51],loc:=[5,10],pure:=[(3,8)],heads:=[(8,[(1,none),(2,none),(4,none),(30,none),(31,none),(32,none)])] }:=by kernel_rfl
theorem an106:ans 106={ nt:=8,keep:=[0,2,4],prim:=true }:=by kernel_rfl
theorem an107:ans 107={ nt:=80,keep:=[0,1,2,4,5,6,7,8,9,11,12,23,34,56,61,79],loc:=[4,5],heads:=[(12,[(0,none),(5,none),(7,none),(8,none),(9,none)])] }:=by kernel_rfl
theorem an108:ans 108={ nt:=19,keep:=[0,2,3,7,18],heads:=[(2,[(0,none),(3,none)])] }:=by kernel_rfl
theorem an113:ans 113={ nt:=16,keep:=[0,1,3,4,5,6,8,9,13],loc:=[6] }:=by kernel_rfl
theorem an114:ans 114={ nt:=26,keep:=[0,1,2,4,5,6,19],loc:=[4] }:=by kernel_rfl
theorem an115:ans 115={ nt:=19,keep:=[0,1,4,5,7,8,9,16],heads:=[(2,[(0,none),(1,none),(7,none),(8,none)])] }:=by kernel_rfl
theorem an116:ans 116={ nt:=39,keep:=[0,1,2,4,5,6,7,9,17,23,24,25,26],loc:=[2,4,5,7,9],take:=[(8,1)],heads:=[(6,[(1,none),(4,none),(7,none),(23,none),(24,none),(25,none)])] }:=by kernel_rfl
theorem an118:ans 118={ nt:=28,keep:=[0,1,4,5,6,8,13,22],loc:=[4],heads:=[(4,[(0,none),(1,none),(4,none),(6,none)])] }:=by kernel_rfl
theorem an119:ans 119={ nt:=57,keep:=[0,1,2,3,6,7,8,9,19,28,40],loc:=[3,6,8],take:=[(10,1)],heads:=[(2,[(1,none),(2,none),(3,none),(6,none),(7,none)]),(8,[(1,none),(2,none),(3,none),(6,none),(8,none),(9,none)])] }:=by kernel_rfl
theorem an120:ans 120={ nt:=32,keep:=[0,1,4,5,7,9,11,12,13,14,20,21,22,23,28],heads:=[(3,[(0,none),(5,none),(11,none),(12,none),(13,none)]),(8,[(5,none),(20,none),(21,none),(22,none)])] }:=by kernel_rfl
theorem an121:ans 121={ nt:=9,keep:=[0,1,4] }:=by kernel_rfl
theorem an122:ans 122={ nt:=6,keep:=[0,2] }:=by kernel_rfl
theorem an123:ans 123={ nt:=6,keep:=[0,2] }:=by kernel_rfl
theorem an124:ans 124={ nt:=6,keep:=[0,2] }:=by kernel_rfl
theorem an125:ans 125={ nt:=6,keep:=[0,2] }:=by kernel_rfl
theorem an126:ans 126={ nt:=9,keep:=[0,1,3] }:=by kernel_rfl
theorem an127:ans 127={ nt:=9,keep:=[0,1,4] }:=by kernel_rfl
theorem an128:ans 128={ nt:=19,keep:=[0,1,2,3,4],loc:=[2] }:=by kernel_rfl
theorem an129:ans 129={ nt:=22,keep:=[0,1,2,3,4],loc:=[1] }:=by kernel_rfl
theorem an130:ans 130={ nt:=29,keep:=[0,2] }:=by kernel_rfl
theorem an131:ans 131={ nt:=22,keep:=[0,1,2,3,7,12,21],loc:=[1],heads:=[(4,[(1,none),(3,none)])] }:=by kernel_rfl
theorem an132:ans 132={ nt:=6,keep:=[0,1,2],loc:=[1] }:=by kernel_rfl
theorem an133:ans 133={ nt:=9,keep:=[0,1,4] }:=by kernel_rfl
theorem an134:ans 134={ nt:=11,keep:=[0,1,2,3,4],loc:=[3] }:=by kernel_rfl
theorem an135:ans 135={ nt:=8,keep:=[0,1,2,3],loc:=[2] }:=by kernel_rfl
theorem an136:ans 136={ nt:=34,keep:=[0,1,4,5,7,8,9,10,11,18,30],loc:=[7],heads:=[(3,[(0,none),(5,none),(8,none),(9,none),(10,none)])] }:=by kernel_rfl
theorem an137:ans 137={ nt:=13,keep:=[0,1,2,4,5,6,7],loc:=[5],take:=[(3,0),(4,1)],ownRes:=true,ownArg:=[0] }:=by kernel_rfl
theorem an150:ans 150={ nt:=8,keep:=[0,2,4],prim:=true }:=by kernel_rfl
theorem an155:ans 155={ nt:=6,keep:=[0,2] }:=by kernel_rfl
theorem an156:ans 156={ nt:=13,keep:=[0,2,3] }:=by kernel_rfl
theorem an157:ans 157={ nt:=20,keep:=[0,1,4,5,9,18],heads:=[(2,[(0,none),(1,none),(5,none)])] }:=by kernel_rfl
theorem an160:ans 160={ nt:=4,keep:=[0,1,2] }:=by kernel_rfl
theorem an161:ans 161={ nt:=5,keep:=[0],loc:=[0] }:=by kernel_rfl
theorem an162:ans 162={ nt:=19,keep:=[0,1,4,5,7,8,9,16],heads:=[(2,[(0,none),(1,none),(7,none),(8,none)])] }:=by kernel_rfl
theorem an163:ans 163={ nt:=35,keep:=[0,2,4,5,8,30],loc:=[5],prim:=true }:=by kernel_rfl
theorem an164:ans 164={ nt:=7,keep:=[0,1,2,3],loc:=[2] }:=by kernel_rfl
theorem an165:ans 165={ nt:=3,keep:=[2] }:=by kernel_rfl
theorem an166:ans 166={ nt:=20,keep:=[0,1,2,3,4],loc:=[3] }:=by kernel_rfl
theorem an167:ans 167={ nt:=19,keep:=[0,1,4,5,7,8,9,16],heads:=[(2,[(0,none),(1,none),(7,none),(8,none)])] }:=by kernel_rfl
theorem an171:ans 171={ nt:=20,keep:=[0,1,4,8,9,10,11,12,18],loc:=[4],heads:=[(2,[(0,none),(9,none),(10,none),(11,none)])] }:=by kernel_rfl
theorem an172:ans 172={ nt:=5,keep:=[0],loc:=[0] }:=by kernel_rfl
theorem an173:ans 173={ nt:=19,keep:=[0,2,3,4,5,10,11],loc:=[5],take:=[(5,0)] }:=by kernel_rfl
theorem an179:ans 179={ nt:=38,keep:=[0,1,3,17,37],loc:=[3],heads:=[(1,[(0,none),(1,none)])] }:=by kernel_rfl
end Go.Proofs.YtkmnkiekmlcfdaaGreatDoor
end
section
namespace Go.Proofs.YtkmnkiekmlcfdaaGreatDoor
open Go.AM
theorem fd211_2:fieldAt? Tryz.prog 211 2=some (3,209):=by kernel_rfl
theorem an180:ans 180={ nt:=44,keep:=[0,2,20],take:=[(4,4)],pure:=[(0,8)],heads:=[(0,[(0,none)])] }:=by kernel_rfl
theorem an181:ans 181={ nt:=66,keep:=[0,2,3,8,15,20,25,42,53],loc:=[2] }:=by kernel_rfl
theorem an184:ans 184={ nt:=42,keep:=[0,1,2,6,7,38],heads:=[(2,[(0,none),(1,none),(2,none),(7,none)])] }:=by kernel_rfl
theorem an185:ans 185={ nt:=17,keep:=[0,2] }:=by kernel_rfl
theorem an186:ans 186={ nt:=16,keep:=[0,1,4] }:=by kernel_rfl
theorem an187:ans 187={ nt:=77,keep:=[0,2,3,18,34,40,59,76],heads:=[(2,[(0,none),(2,none),(3,none)])] }:=by kernel_rfl
theorem an188:ans 188={ nt:=28,keep:=[0,1,4,16] }:=by kernel_rfl
theorem an189:ans 189={ nt:=9,keep:=[0,2] }:=by kernel_rfl
theorem an190:ans 190={ nt:=76,keep:=[0,2,3,4,5,6,7,8,13,60],loc:=[2] }:=by kernel_rfl
theorem an191:ans 191={ nt:=9,keep:=[0,2] }:=by kernel_rfl
theorem an192:ans 192={ nt:=50,keep:=[0,1,4,5,6,7,8,9,19,27,46],loc:=[4,7] }:=by kernel_rfl
theorem an193:ans 193={ nt:=9,keep:=[0,2] }:=by kernel_rfl
theorem an194:ans 194={ nt:=41,keep:=[0,1,2,6,8],loc:=[6] }:=by kernel_rfl
theorem an195:ans 195={ nt:=17,keep:=[0,2] }:=by kernel_rfl
end Go.Proofs.YtkmnkiekmlcfdaaGreatDoor
end
