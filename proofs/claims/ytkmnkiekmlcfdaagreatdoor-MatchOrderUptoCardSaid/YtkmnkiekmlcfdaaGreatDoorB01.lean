/- Part B01 of the proof of one law of the program. -/
import Derived.Test.YtkmnkiekmlcfdaaGreatDoorA01
import Derived.Test.YtkmnkiekmlcfdaaGreatDoorA07
import Derived.Test.YtkmnkiekmlcfdaaGreatDoorProg
set_option linter.all false
set_option linter.unusedVariables false
set_option linter.unusedSimpArgs false
set_option linter.unusedSectionVars false
set_option linter.unnecessarySimpa false
section
namespace Go.Proofs.YtkmnkiekmlcfdaaGreatDoor
open Go.AM
def annTab:List Ann:=[
  { nt:=0,keep:=[] },
  { nt:=0,keep:=[] },
  { nt:=1,keep:=[] },
  { nt:=113,keep:=[0,1,2,3,4,6,7,8,9,10,11,12,13,14,15,76,80,91],loc:=[2,3,5],heads:=[(8,[(2,none),(3,none),(10,none),(12,none),(14,none)])] },
  { nt:=130,keep:=[0,1,2,3,4,6,7,8,9,11,12,14,15,16,17,18,19,20,21,77,102,109,115,128],loc:=[3,4,10,13],take:=[(4,0)],heads:=[(14,[(7,none),(16,none),(17,none),(19,none)]),(18,[(7,none),(16,none),(17,none),(19,none),(20,none),(21,none)])] },
  { nt:=144,keep:=[0,1,2,4,6,7,8,9,10,11,12,13,14,15,16,17,18,19,20,21,22,23,52,56,83,91,119],loc:=[4,19,21],heads:=[(6,[(0,none),(2,none),(4,none),(8,none),(11,none),(13,none)]),(11,[(0,none),(2,none),(4,none),(14,none)])] },
  { nt:=112,keep:=[0,1,3,4,5,6,7,8,9,10,11,33,37,65,73,93],loc:=[3],heads:=[(6,[(0,none),(3,none),(5,none),(7,none),(9,none)]),(11,[(0,none),(3,none),(5,none),(7,none),(9,none),(10,none)])] },
  { nt:=142,keep:=[0,1,2,3,4,5,6,7,8,9,10,11,12,13,14,34,38,77,98],loc:=[2,3],heads:=[(6,[(2,none),(3,none),(5,none),(7,none),(9,none)]),(10,[(2,none),(3,none),(5,none),(7,none),(9,none),(10,none),(11,none)])] },
  { nt:=93,keep:=[0,1,2,3,4,5,6,8,9,10,11,12,13,14,15],loc:=[3,4,5,7] },
  { nt:=27,keep:=[0,1,2,4,6,7,8,9,15],loc:=[4,6] },
  { nt:=22,keep:=[0,1,2,4,6,7,8,14],loc:=[4] },
  { nt:=20,keep:=[0,1,2,4,6,7,8,14],loc:=[4] },
  { nt:=41,keep:=[0,1,2,4,6,7,8,9,10,16,21,35],loc:=[4],take:=[(9,0)],heads:=[(6,[(0,none),(2,none),(4,none),(9,none),(10,none)])] },
  { nt:=160,keep:=[0,1,2,3,4,5,6,8,9,10,11,12,13,14,15,16,17,18,19],loc:=[3,4,7,10] },
  { nt:=31,keep:=[0,1,2,3,5,7,8,9,10,16,23,27,29,30],loc:=[5] },
  { nt:=41,keep:=[0,1,2,3,5,7,8,9,10,16,23,28,32,40],loc:=[5,7],heads:=[(10,[(2,none),(7,none),(10,none)])] },
  { nt:=13,keep:=[0,1,4,6] },
  { nt:=2,keep:=[0],loc:=[0] },
  { nt:=47,keep:=[0,1,3,4,5,6,7,8,9,10,11,16,22,27,28,36],loc:=[9,10],take:=[(11,0)],pure:=[(11,4)] },
  { nt:=66,keep:=[0,1,3,4,5,6,7,8,9,10,11,12,18,23,32,41],loc:=[3,12],take:=[(14,0)],heads:=[(5,[(0,none),(3,none),(8,none)]),(11,[(3,none),(8,none),(9,none),(10,none),(11,none)])] },
  { nt:=50,keep:=[0,1,2,3,4,5,6,35],loc:=[2,3],heads:=[(3,[(2,none),(3,none),(5,none),(6,none)])] },
  { nt:=17,keep:=[0,1,2,3,4,5,6,12],loc:=[2,3] },
  { nt:=17,keep:=[0,1,2,3,4,5,6,12],loc:=[2,3] },
  { nt:=19,keep:=[0,1,2,4,5,6,7,15],loc:=[2,4,6] },
  { nt:=33,keep:=[0,1,2,4,5,6,10,22],loc:=[2,4],heads:=[(2,[(1,none),(2,none),(4,none),(6,none)])] },
  { nt:=44,keep:=[0,1,3,4,5,6,7,9,10,11,16,21,22,23,24,28,29,30,31],loc:=[3,9,11],heads:=[(6,[(7,none),(21,none),(22,none),(23,none)]),(9,[(7,none),(9,none),(21,none),(22,none),(23,none),(28,none),(29,none),(30,none)])] },
  { nt:=13,keep:=[0,1,3,4,5,9],loc:=[3] },
  { nt:=43,keep:=[0,1,2,3,4,5,6,28],loc:=[2,3],heads:=[(3,[(2,none),(3,none),(5,none),(6,none)])] },
  { nt:=6,keep:=[0,2,5] },
  { nt:=178,keep:=[0,2,3,4,5,6,7,8,9,10,11,12,15,21,50,60,82,87,117,130,140,155,177],loc:=[6],take:=[(11,0),(22,0)],heads:=[(6,[(0,none),(3,none),(4,none),(5,none)]),(13,[(0,none),(3,none),(4,none),(5,none),(6,none),(7,none)]),(18,[(0,none),(3,none),(4,none),(5,none),(6,none),(8,none)]),(24,[(0,none),(9,none)]),(27,[(0,none),(9,none),(10,none)]),(31,[(0,none),(9,none),(10,none),(11,none),(12,none)])] },
  { nt:=14,keep:=[0,1,3,4,13],loc:=[3] },
  { nt:=14,keep:=[0,1,3,4,13],loc:=[3] },
  { nt:=14,keep:=[0,1,2,3,4,7],loc:=[1] },
  { nt:=11,keep:=[0,1,2,3,5,8],loc:=[1] },
  { nt:=31,keep:=[0,1,4,5,6,18],heads:=[(3,[(0,none),(1,none),(5,none),(6,none)])] },
  { nt:=17,keep:=[0,1,2,3,4,6,7,10],loc:=[1,4],take:=[(5,0)] },
  { nt:=23,keep:=[0,1,2,3,4,5,11],loc:=[1],take:=[(6,0)],heads:=[(4,[(3,none),(4,none),(5,none)])] },
  { nt:=18,keep:=[0,1,2,4,5,6,7,12],loc:=[4,5] },
  { nt:=15,keep:=[0,1,2,4,5,6,10],loc:=[4,5] },
  { nt:=40,keep:=[0,1,2,4,6,7,9,10,15,17,20,24,25,26,27,31,37],loc:=[4,9],heads:=[(9,[(0,none),(4,none),(24,none),(25,none),(26,none)])] },
  { nt:=45,keep:=[0,1,2,4,6,7,8,12,20,23,27,34,43],loc:=[4],heads:=[(8,[(0,none),(2,none),(4,none),(7,none)])] },
  { nt:=40,keep:=[0,1,2,4,6,7,8,10,11,12,18,29,37],loc:=[4,6,9,12] },
  { nt:=37,keep:=[0,1,2,3,4,5,6,7,8,9,10,14,29],loc:=[2,3],heads:=[(2,[(2,none),(3,none),(9,none)])] },
  { nt:=56,keep:=[0,1,2,3,4,5,6,7,8,9,10,12,18,29,35,46,49],loc:=[2,3,7],heads:=[(2,[(2,none),(3,none),(6,none)]),(11,[(2,none),(3,none),(6,none),(7,none),(9,none),(10,none)])] },
  { nt:=23,keep:=[0,1,2,4,6,7,8,21],loc:=[4] },
  { nt:=22,keep:=[0,1,4,5,9,18],heads:=[(2,[(0,none),(1,none),(5,none)])] },
  { nt:=29,keep:=[0,1,2,3,5,7,8,9,15,28],loc:=[5,7] },
  { nt:=26,keep:=[0,1,2,3,4,5,14,25],loc:=[2,3] },
  { nt:=10,keep:=[0,1,2],loc:=[1,2] },
  { nt:=28,keep:=[0,1,2,4,6,7,8,9,22],loc:=[4,6] },
  { nt:=32,keep:=[0,1,2,3,5,7,8,9,10,14],loc:=[5,7],take:=[(5,0)],heads:=[(3,[(0,none),(2,none),(5,none),(7,none),(9,none),(10,none)])] },
  { nt:=42,keep:=[0,1,2,4,6,7,8,10,12,13,14,35],loc:=[4],take:=[(7,0)],heads:=[(3,[(0,none),(2,none),(4,none),(7,none),(12,none),(13,none)])] },
  { nt:=8,keep:=[0,1,4],loc:=[4] },
  { nt:=14,keep:=[0,1],loc:=[1] },
  { nt:=4,keep:=[0],loc:=[0] },
  { nt:=27,keep:=[0,1,2,4,5,6,7,8,10,15,18,19,23],loc:=[4,5,8] },
  { nt:=9,keep:=[0,1,4] },
  { nt:=7,keep:=[0,1,2,3],loc:=[2] },
  { nt:=23,keep:=[0,1,2,3,4,10],loc:=[2,3] },
  { nt:=6,keep:=[0,1,2,3,4] },
  { nt:=17,keep:=[0,1,2,4,5,6,8,13,16],loc:=[4,5] },
  { nt:=29,keep:=[0,1,3,4,5,8,18],loc:=[3],take:=[(2,0),(6,0),(7,0),(7,1)],heads:=[(4,[(0,none),(3,none),(5,none)])],ownRes:=true,ownArg:=[0] },
  { nt:=45,keep:=[0,1,2,3,4,5,11,25,30,44],loc:=[2,3],heads:=[(6,[(2,none),(3,none),(5,none)])] },
  { nt:=14,keep:=[0,1,2,4,5,8,11],loc:=[2] },
  { nt:=19,keep:=[0,1,4,5,7,8,9,16],heads:=[(2,[(0,none),(1,none),(7,none),(8,none)])] },
  { nt:=7,keep:=[0,1,2,3],loc:=[2] },
  { nt:=45,keep:=[0,1,2,3,4,5,6,8,27,29,30,31,32,43],loc:=[2,3,6],heads:=[(6,[(3,none),(29,none),(30,none),(31,none)])] },
  { nt:=31,keep:=[0,1,2,4,5,7,8,9,10,11,22],loc:=[2,4],heads:=[(2,[(2,none),(4,none),(8,none),(9,none),(10,none)])] },
  { nt:=27,keep:=[0,1,2,3,5,12,13,14,15],loc:=[1,2,3,5],take:=[(5,1)],heads:=[(3,[(2,none),(3,none),(12,none),(13,none),(14,none)])],prim:=true },
  { nt:=32,keep:=[0,1,3,4,5,13,20,28,31],loc:=[3],heads:=[(2,[(0,none),(3,none),(5,none)])] },
  { nt:=52,keep:=[0,1,2,3,4,5,13,32,37,51],loc:=[2,3],heads:=[(6,[(2,none),(3,none),(5,none)])] },
  { nt:=61,keep:=[0,1,2,3,5,8,9,16,20,42],loc:=[5],take:=[(2,0),(2,1),(4,0),(8,0),(9,0),(9,1)],heads:=[(6,[(0,none),(2,none),(3,none),(5,none),(9,none)])],ownRes:=true,ownArg:=[0] },
  { nt:=15,keep:=[0,1,2,6] },
  { nt:=70,keep:=[0,1,3,4,5,6,7,8,10,11,13,16,36,39,40,41,42,49,50,51,52],loc:=[10,11,13],take:=[(15,1),(17,0)],heads:=[(9,[(7,none),(8,none),(39,none),(40,none),(41,none)]),(13,[(7,none),(8,none),(11,none),(39,none),(40,none),(41,none),(49,none),(50,none),(51,none)])] },
  { nt:=5,keep:=[0,1,2],loc:=[1,2] },
  { nt:=76,keep:=[0,1,3,4,5,6,7,8,9,10,13,26,31,49],loc:=[3,5,9],take:=[(14,1),(15,0)],heads:=[(8,[(3,none),(5,none),(7,none),(8,none)]),(12,[(3,none),(5,none),(7,none),(8,none),(9,none),(10,none)])] },
  { nt:=133,keep:=[0,2,3,4,6,8,9,11,12,14,16,19,20,21,22,23,57,59,60,61,62,73,95,96,97,98,99,104,105,106,107,111,112,113,114,129],loc:=[6,8,14,16],take:=[(7,0),(13,0)],heads:=[(5,[(0,none),(3,none),(4,none),(20,none),(21,none),(22,none)]),(11,[(0,none),(3,none),(4,none),(20,none),(21,none),(22,none),(59,none),(60,none),(61,none)]),(22,[(0,none),(96,none),(97,none),(98,none)]),(26,[(0,none),(12,none),(96,none),(97,none),(98,none),(104,none),(105,none),(106,none)]),(29,[(0,none),(12,none),(96,none),(97,none),(98,none),(104,none),(105,none),(106,none),(111,none),(112,none),(113,none)])] },
  { nt:=74,keep:=[0,1,2,6,7,8,28,38,44,55,61,73],heads:=[(4,[(0,none),(7,none)]),(11,[(0,none),(8,none)])] },
  { nt:=18,keep:=[0,1,4,5,9,17],heads:=[(2,[(0,none),(1,none),(5,none)])] },
  { nt:=38,keep:=[0,2,3,26,30,37],heads:=[(4,[(0,none),(3,none)])] },
  { nt:=102,keep:=[0,1,2,3,4,6,10,11,12,13,15,25,45,63,64,70,75,76,82,87,101],loc:=[6,11],heads:=[(18,[(0,none),(2,none),(3,none),(4,none),(6,none),(13,none)])] },
  { nt:=49,keep:=[0,1,2,3,4,9,48],loc:=[1],heads:=[(2,[(1,none),(3,none)])] },
  { nt:=68,keep:=[0,1,2,3,4,5,6,7,8,10,28,29,41,48,49,62],loc:=[4,7] },
  { nt:=13,keep:=[0,1,2,3,4],loc:=[2] },
  { nt:=11,keep:=[0,2] },
  { nt:=5,keep:=[0,2] },
  { nt:=23,keep:=[0,1,2,4,5,7,12,22],loc:=[2],heads:=[(4,[(1,none),(2,none),(5,none)])] },
  { nt:=31,keep:=[0,1,2,4,5,6,16],loc:=[2],heads:=[(3,[(1,none),(2,none),(5,none),(6,none)])] },
  { nt:=25,keep:=[0,2,3,4,12],heads:=[(3,[(0,none),(3,none),(4,none)])] },
  { nt:=86,keep:=[0,1,2,3,4,6,8,10,11,12,13,14,16,18,34,46,61,62,63,64],loc:=[6,10,14,16,18],take:=[(13,1)],heads:=[(11,[(0,none),(2,none),(4,none),(6,none),(8,none),(10,none),(12,none),(16,none),(61,none),(62,none),(63,none)])] },
  { nt:=2,keep:=[0],loc:=[0] },
  { nt:=19,keep:=[0,1,4,5,7,8,9,16],heads:=[(2,[(0,none),(1,none),(7,none),(8,none)])] },
  { nt:=13,keep:=[0,1,2,3,4],loc:=[3] },
  { nt:=9,keep:=[0,1,2,3,4],loc:=[1] },
  { nt:=110,keep:=[0,1,2,3,4,6,8,9,10,11,12,13,14,15,16,17,21,46,68,77,78,79,80,81,108],loc:=[6,8,12,16,17],heads:=[(13,[(0,none),(2,none),(6,none),(8,none),(9,none),(78,none),(79,none),(80,none)])] },
  { nt:=32,keep:=[0,1,2,4,5,6,16],loc:=[2],heads:=[(3,[(1,none),(2,none),(5,none),(6,none)])] },
  { nt:=119,keep:=[0,1,2,3,4,5,6,7,8,9,10,11,15,40,44,53,71,81,85,118],loc:=[3,4,5,8],pure:=[(19,27),(19,28)],heads:=[(5,[(3,none),(4,none),(5,none),(7,none)]),(17,[(3,none),(4,none),(5,none),(10,none),(11,none)])] },
  { nt:=162,keep:=[0,1,2,3,4,5,6,7,8,9,10,11,13,14,16,17,18,20,22,23,24,25,27,28,29,32,38,47,48,49,50,57,69,70,71,72,73,82,92,93,94,95,108,109,110,111,112,122,125,126,127,128,134,152],loc:=[16,20,22],take:=[(43,0),(48,0),(49,0)],heads:=[(8,[(4,none),(5,none),(6,none),(7,none),(10,none),(11,none),(47,none),(48,none),(49,none)]),(16,[(6,none),(14,none),(70,none),(71,none),(72,none)]),(25,[(4,none),(5,none),(6,none),(7,none),(10,none),(11,none),(14,none),(17,none),(18,none),(92,none),(93,none),(94,none)]),(31,[(14,none),(109,none),(110,none),(111,none)]),(40,[(4,none),(5,none),(6,none),(10,none),(11,none),(17,none),(25,none),(125,none),(126,none),(127,none)])] },
  { nt:=22,keep:=[0,2,3,4,6,7,8],take:=[(5,0)],heads:=[(3,[(0,none),(3,none),(6,none),(7,none)])] },
  { nt:=30,keep:=[0,1,2,3,5,7,15,16,17,18],loc:=[1,2,3,5],take:=[(7,1)],heads:=[(5,[(2,none),(3,none),(15,none),(16,none),(17,none)])] },
  { nt:=131,keep:=[0,1,2,3,8,9,10,11,12,13,14,15,16,17,18,19,20,23,26,35,50,54,80,93,97,112,130],take:=[(15,0),(29,0)],heads:=[(7,[(0,none),(1,none),(2,none),(3,none),(9,none),(10,none)]),(13,[(0,none),(1,none),(2,none),(3,none),(11,none),(12,none)]),(19,[(0,none),(1,none),(2,none),(3,none),(13,none),(14,none)]),(25,[(0,none),(1,none),(2,none),(3,none),(13,none),(14,none),(15,none),(17,none),(18,none)])] },
  { nt:=76,keep:=[0,1,2,4,5,6,8,9,10,12,13,24,35,39,40,41,42,49,56,58,59,60,61,73],loc:=[4,5,8,10],heads:=[(8,[(0,none),(5,none),(39,none),(40,none),(41,none)]),(14,[(0,none),(8,none),(58,none),(59,none),(60,none)])] },
  { nt:=11,keep:=[0,1,2],loc:=[1] },
  { nt:=32,keep:=[0,1,2,6,7,8,9,14,15,16,17,18,30],loc:=[8,9],heads:=[(4,[(1,none),(2,none),(15,none),(16,none),(17,none)])] },
  { nt:=10,keep:=[0,1,2,3,4] },
  { nt:=53,keep:=[0,1,2,3,4,5,8,9,10,12,25,28,30,31,32,33,51],loc:=[5,10],pure:=[(3,8)],heads:=[(8,[(1,none),(2,none),(4,none),(30,none),(31,none),(32,none)])] },
  { nt:=8,keep:=[0,2,4],prim:=true },
  { nt:=80,keep:=[0,1,2,4,5,6,7,8,9,11,12,23,34,56,61,79],loc:=[4,5],heads:=[(12,[(0,none),(5,none),(7,none),(8,none),(9,none)])] },
  { nt:=19,keep:=[0,2,3,7,18],heads:=[(2,[(0,none),(3,none)])] },
  { nt:=6,keep:=[0,1,2],loc:=[1] },
  { nt:=5,keep:=[0,1,2],loc:=[1] },
  { nt:=9,keep:=[0,1,2,3,4],loc:=[1] },
  { nt:=31,keep:=[0,1,2,4,5,6,16],loc:=[2],heads:=[(3,[(1,none),(2,none),(5,none),(6,none)])] },
  { nt:=16,keep:=[0,1,3,4,5,6,8,9,13],loc:=[6] },
  { nt:=26,keep:=[0,1,2,4,5,6,19],loc:=[4] },
  { nt:=19,keep:=[0,1,4,5,7,8,9,16],heads:=[(2,[(0,none),(1,none),(7,none),(8,none)])] },
  { nt:=39,keep:=[0,1,2,4,5,6,7,9,17,23,24,25,26],loc:=[2,4,5,7,9],take:=[(8,1)],heads:=[(6,[(1,none),(4,none),(7,none),(23,none),(24,none),(25,none)])] },
  { nt:=5,keep:=[2,3],loc:=[2] },
  { nt:=28,keep:=[0,1,4,5,6,8,13,22],loc:=[4],heads:=[(4,[(0,none),(1,none),(4,none),(6,none)])] },
  { nt:=57,keep:=[0,1,2,3,6,7,8,9,19,28,40],loc:=[3,6,8],take:=[(10,1)],heads:=[(2,[(1,none),(2,none),(3,none),(6,none),(7,none)]),(8,[(1,none),(2,none),(3,none),(6,none),(8,none),(9,none)])] },
  { nt:=32,keep:=[0,1,4,5,7,9,11,12,13,14,20,21,22,23,28],heads:=[(3,[(0,none),(5,none),(11,none),(12,none),(13,none)]),(8,[(5,none),(20,none),(21,none),(22,none)])] },
  { nt:=9,keep:=[0,1,4] },
  { nt:=6,keep:=[0,2] },
  { nt:=6,keep:=[0,2] },
  { nt:=6,keep:=[0,2] },
  { nt:=6,keep:=[0,2] },
  { nt:=9,keep:=[0,1,3] },
  { nt:=9,keep:=[0,1,4] },
  { nt:=19,keep:=[0,1,2,3,4],loc:=[2] },
  { nt:=22,keep:=[0,1,2,3,4],loc:=[1] },
  { nt:=29,keep:=[0,2] },
  { nt:=22,keep:=[0,1,2,3,7,12,21],loc:=[1],heads:=[(4,[(1,none),(3,none)])] },
  { nt:=6,keep:=[0,1,2],loc:=[1] },
  { nt:=9,keep:=[0,1,4] },
  { nt:=11,keep:=[0,1,2,3,4],loc:=[3] },
  { nt:=8,keep:=[0,1,2,3],loc:=[2] },
  { nt:=34,keep:=[0,1,4,5,7,8,9,10,11,18,30],loc:=[7],heads:=[(3,[(0,none),(5,none),(8,none),(9,none),(10,none)])] },
  { nt:=13,keep:=[0,1,2,4,5,6,7],loc:=[5],take:=[(3,0),(4,1)],ownRes:=true,ownArg:=[0] },
  { nt:=7,keep:=[0,1,2,3],loc:=[2] },
  { nt:=39,keep:=[0,1,2,3,4,5,6,7,8,9,11,13,16,17,18,19,33],loc:=[2,3,7],heads:=[(6,[(2,none),(16,none),(17,none),(18,none)])] },
  { nt:=63,keep:=[0,1,2,3,5,6,8,9,11,13,14,15,16,17,33,37,38,39,40,47],loc:=[5,6,8,13],heads:=[(2,[(0,none),(5,none),(6,none),(8,none),(14,none),(15,none),(16,none)]),(7,[(0,none),(5,none),(6,none),(8,none),(11,none),(14,none),(15,none),(16,none),(37,none),(38,none),(39,none)])] },
  { nt:=39,keep:=[0,1,2,3,5,6,7,10],loc:=[3,5,6,7],pure:=[(4,15)] },
  { nt:=16,keep:=[0,1,2,3,4],loc:=[3] },
  { nt:=9,keep:=[0,1,4] },
  { nt:=9,keep:=[0,1,2,3],loc:=[2] },
  { nt:=29,keep:=[0,1,2,3,4,6],loc:=[2,3] },
  { nt:=7,keep:=[0,1,2,3],loc:=[2] },
  { nt:=45,keep:=[0,1,2,3,4,5,7,25,30,44],loc:=[2,3],heads:=[(6,[(2,none),(3,none),(5,none)])] },
  { nt:=61,keep:=[0,1,2,3,5,6,8,9,10,11,15,31],loc:=[5,6,8],pure:=[(7,4)],heads:=[(2,[(0,none),(3,none),(5,none),(6,none),(8,none),(10,none)])] },
  { nt:=45,keep:=[0,1,2,3,5,6,7,10],loc:=[3,5,6,7],pure:=[(4,15)] },
  { nt:=8,keep:=[0,2,4],prim:=true },
  { nt:=99,keep:=[0,1,2,3,4,5,6,7,8,9,10,12,13,14,15,16,26,27,28,29,30,41,83],loc:=[5],take:=[(10,0)],heads:=[(6,[(1,none),(3,none),(4,none),(5,none),(8,none),(10,none),(27,none),(28,none),(29,none)])] },
  { nt:=29,keep:=[0,1,2,3,4,5,6,12],loc:=[2,3] },
  { nt:=26,keep:=[0,1,4,6,9,11,12,13,14,21],loc:=[4,6],heads:=[(4,[(1,none),(4,none),(11,none),(12,none),(13,none)])] },
  { nt:=36,keep:=[0,1,3,4,5,6,7,20,27],loc:=[3,6],take:=[(7,0)] },
  { nt:=6,keep:=[0,2] },
  { nt:=13,keep:=[0,2,3] },
  { nt:=20,keep:=[0,1,4,5,9,18],heads:=[(2,[(0,none),(1,none),(5,none)])] },
  { nt:=15,keep:=[0,1,2,3,4],loc:=[3] },
  { nt:=9,keep:=[0,1,4] },
  { nt:=4,keep:=[0,1,2] },
  { nt:=5,keep:=[0],loc:=[0] },
  { nt:=19,keep:=[0,1,4,5,7,8,9,16],heads:=[(2,[(0,none),(1,none),(7,none),(8,none)])] },
  { nt:=35,keep:=[0,2,4,5,8,30],loc:=[5],prim:=true },
  { nt:=7,keep:=[0,1,2,3],loc:=[2] },
  { nt:=3,keep:=[2] },
  { nt:=20,keep:=[0,1,2,3,4],loc:=[3] },
  { nt:=19,keep:=[0,1,4,5,7,8,9,16],heads:=[(2,[(0,none),(1,none),(7,none),(8,none)])] },
  { nt:=12,keep:=[0,1,2],loc:=[1,2],pure:=[(1,2),(1,7)] },
  { nt:=15,keep:=[0,2,3,4,7],take:=[(5,0),(6,0),(6,1)],heads:=[(3,[(0,none),(3,none),(4,none)])],ownRes:=true,ownArg:=[] },
  { nt:=19,keep:=[0,1,4,5,7,8,9,16],heads:=[(2,[(0,none),(1,none),(7,none),(8,none)])] },
  { nt:=20,keep:=[0,1,4,8,9,10,11,12,18],loc:=[4],heads:=[(2,[(0,none),(9,none),(10,none),(11,none)])] },
  { nt:=5,keep:=[0],loc:=[0] },
  { nt:=19,keep:=[0,2,3,4,5,10,11],loc:=[5],take:=[(5,0)] },
  { nt:=48,keep:=[0,1,4,5,6,7,8,10,26,37],heads:=[(8,[(7,none),(8,none)])],prim:=true },
  { nt:=22,keep:=[0,2,3,5,11,12,13],heads:=[(3,[(3,none),(11,none),(12,none)])] },
  { nt:=12,keep:=[0,1,3,4,5,7,9,10],loc:=[3] },
  { nt:=4,keep:=[0,1,2] },
  { nt:=30,keep:=[0,1,4,5,6,7,8,9] },
  { nt:=38,keep:=[0,1,3,17,37],loc:=[3],heads:=[(1,[(0,none),(1,none)])] },
  { nt:=44,keep:=[0,2,20],take:=[(4,4)],pure:=[(0,8)],heads:=[(0,[(0,none)])] },
  { nt:=66,keep:=[0,2,3,8,15,20,25,42,53],loc:=[2] },
  { nt:=17,keep:=[0,1,4,5,6] },
  { nt:=51,keep:=[0,1,4,5,6,7,8,9,10,11,12,13] },
  { nt:=42,keep:=[0,1,2,6,7,38],heads:=[(2,[(0,none),(1,none),(2,none),(7,none)])] },
  { nt:=17,keep:=[0,2] },
  { nt:=16,keep:=[0,1,4] },
  { nt:=77,keep:=[0,2,3,18,34,40,59,76],heads:=[(2,[(0,none),(2,none),(3,none)])] },
  { nt:=28,keep:=[0,1,4,16] },
  { nt:=9,keep:=[0,2] },
  { nt:=76,keep:=[0,2,3,4,5,6,7,8,13,60],loc:=[2] },
  { nt:=9,keep:=[0,2] },
  { nt:=50,keep:=[0,1,4,5,6,7,8,9,19,27,46],loc:=[4,7] },
  { nt:=9,keep:=[0,2] },
  { nt:=41,keep:=[0,1,2,6,8],loc:=[6] },
  { nt:=17,keep:=[0,2] },
  { nt:=8,keep:=[0,1,4] },
  { nt:=8,keep:=[0,1,4] },
  { nt:=21,keep:=[0,2,3,4,5,19] },
  { nt:=8,keep:=[0,1,4] },
  { nt:=18,keep:=[0,1,4] },
  { nt:=18,keep:=[0,2,3,4,5,12] },
  { nt:=104,keep:=[0,1,2,3,8,9,10,11,12,14,15,22,28,36,51,52,53,54,77,78,79],heads:=[(13,[(0,none),(1,none),(2,none),(10,none),(11,none),(52,none),(53,none)]),(21,[(0,none),(2,none),(10,none),(11,none),(77,none),(78,none)])] },
  { nt:=6,keep:=[0,2] },
  { nt:=0,keep:=[] },
  { nt:=77,keep:=[0,2,3,4,5,6,8,9,10,30,39,44,47,48,49,50,56,66],heads:=[(10,[(5,none),(6,none),(47,none),(48,none),(49,none)])] },
  { nt:=43,keep:=[0,1,2,3,4,10,11,12,19,26,34] },
  { nt:=34,keep:=[0,1,4,5,6,9,15,24],heads:=[(6,[(0,none),(1,none),(5,none)])] },
  { nt:=25,keep:=[0,1,7,21] },
  { nt:=8,keep:=[0,1,4] },
  { nt:=19,keep:=[0,1,4,5],take:=[(2,4)] },
  { nt:=19,keep:=[0,2,3,10] },
  { nt:=14,keep:=[0,2] },
  { nt:=5,keep:=[0,2] },
  { nt:=73,keep:=[0,1,2,6,7,8,9,10,11,13,16,17,21,38,41,52,62,69] },
  { nt:=11,keep:=[0,1,4],pure:=[(1,2)] },
  { nt:=11,keep:=[0,1,4],pure:=[(1,2)] },
  { nt:=16,keep:=[0,1,2,6] },
  { nt:=16,keep:=[0,1,2,6] },
  { nt:=10,keep:=[0,2,4,6],heads:=[(2,[(2,none),(4,none)])] },
  { nt:=0,keep:=[] },
  { nt:=20,keep:=[0,6,19] },
  { nt:=30,keep:=[0,1,4] },
  { nt:=143,keep:=[0,1,4,5,6,7,8,9,10,11,12,13,16,24,31,36,59,64,73,93,107,114,132,139],heads:=[(15,[(0,none),(1,none),(5,none),(6,none),(7,none),(8,none),(9,none),(10,none)])] },
  { nt:=117,keep:=[0,2,3,4,5,6,7,8,9,10,11,12,16,23,45,57,59,75,77,98],loc:=[9] },
  { nt:=5,keep:=[0,2] },
  { nt:=172,keep:=[0,1,2,6,7,8,9,10,11,12,13,15,16,17,19,25,32,37,40,52,64,77,83,85,90,92,99,100,101,102,106,112,121,137,141,159,169],heads:=[(36,[(1,none),(8,none),(9,none),(10,none),(11,none),(12,none),(13,none),(99,none),(100,none),(101,none)])] },
  { nt:=18,keep:=[0,2,3,6] },
  { nt:=7,keep:=[0,2] },
  { nt:=0,keep:=[] },
  { nt:=0,keep:=[] },
  { nt:=0,keep:=[] },
  { nt:=6,keep:=[0,2] },
  { nt:=81,keep:=[0,1,4,5,6,7,8,9,10,20,39,44,77],heads:=[(5,[(0,none),(1,none),(5,none),(6,none),(7,none),(8,none),(9,none)]),(11,[(0,none),(1,none),(5,none),(6,none),(7,none),(8,none),(10,none)])] },
  { nt:=54,keep:=[0,1,4,5,6,7,9,11,17,23,34] },
  { nt:=5,keep:=[0,2] },
  { nt:=94,keep:=[0,2,3,4,5,18,46,54,83,87,89,91],heads:=[(10,[(0,none),(3,none),(4,none),(5,none)])] },
  { nt:=39,keep:=[0,2,3,4,5,6,7,8,12,25,30],heads:=[(3,[(0,none),(4,none),(5,none)]),(8,[(4,none),(6,none),(7,none),(8,none)])] },
  { nt:=15,keep:=[0,2,4] },
  { nt:=15,keep:=[0,2,3] },
  { nt:=167,keep:=[0,1,4,5,6,7,8,9,10,11,12,13,14,15,16,20,99,139,161],heads:=[(1,[(0,none),(1,none),(4,none)])] },
  { nt:=102,keep:=[0,1,2,3,4,10,11,12,13,14,15,16,17,18,28,30,34,46,68,89,94],take:=[(29,0)],heads:=[(11,[(0,none),(1,none),(3,none),(4,none),(10,none),(11,none),(12,none),(13,none),(14,none),(15,none),(16,none)]),(18,[(0,none),(1,none),(3,none),(4,none),(10,none),(11,none),(12,none),(13,none),(17,none)])] },
  { nt:=6,keep:=[0,2] },
  { nt:=25,keep:=[0,2,4,8,14] },
  { nt:=4,keep:=[0,2,3] },
  { nt:=8,keep:=[0,2] },
  { nt:=8,keep:=[0,2] },
  { nt:=14,keep:=[0,2,4] },
  { nt:=14,keep:=[0,2,4] },
  { nt:=0,keep:=[] },
  { nt:=0,keep:=[] },
  { nt:=0,keep:=[] },
  { nt:=0,keep:=[] },
  { nt:=0,keep:=[] },
  { nt:=0,keep:=[] },
  { nt:=0,keep:=[] },
  { nt:=0,keep:=[] },
  { nt:=0,keep:=[] },
  { nt:=0,keep:=[] },
  { nt:=0,keep:=[] },
  { nt:=0,keep:=[] },
  { nt:=0,keep:=[] },
  { nt:=0,keep:=[] },
  { nt:=0,keep:=[] },
  { nt:=0,keep:=[] },
  { nt:=0,keep:=[] },
  { nt:=0,keep:=[] },
  { nt:=0,keep:=[] },
  { nt:=0,keep:=[] },
  { nt:=0,keep:=[] },
  { nt:=0,keep:=[] },
  { nt:=0,keep:=[] },
  { nt:=0,keep:=[] },
  { nt:=0,keep:=[] },
  { nt:=0,keep:=[] },
  { nt:=0,keep:=[] },
  { nt:=0,keep:=[] },
  { nt:=0,keep:=[] },
  { nt:=11,keep:=[] }]
def ans (f:FuncId):Ann:=annTab.getD f { nt:=0,keep:=[] }
end Go.Proofs.YtkmnkiekmlcfdaaGreatDoor
end
section
namespace Go.Proofs.YtkmnkiekmlcfdaaGreatDoor
open Go.AM
def vOk:Nat→AVal→Bool
 |n+1,.agg [.str _,.int .i64 _,.slice xs]=>Nat.ble xs.length 1000000&&xs.all (vOk n)
 |_,_=>false
def rowsOk (s:Nat) (xs:List AVal):Bool:=(xs.all fun x=>Nat.beq x.cells.length s)&&Nat.ble xs.length room
def prims (kd:List UInt8→Int):Prims:=fun f args =>
 bif Nat.beq f 163 then (match args with
  |[.val (.str s)]=>some (some (.ret (.val (.int .i64 (kd s)))))
  |_=>some none)
 else bif Nat.beq f 106 then (match args with
  |[.val (.slice xs)]=>bif rowsOk 1 xs then some (some (.ret (.val (.slice xs)))) else some none
  |_=>some none)
 else bif Nat.beq f 150 then (match args with
  |[.val (.slice xs)]=>bif rowsOk 3 xs then some (some (.ret (.val (.slice xs)))) else some none
  |_=>some none)
 else bif Nat.beq f 68 then (match args with
  |[.val v]=>bif vOk 200 v then some (some (.ret (.val v))) else some none
  |_=>some none)
 else bif Nat.beq f 174 then (match args with
  |[.val (.slice [x]),.val (.int .i64 n)]=>bif Nat.beq x.cells.length 3&&decide (0≤n)&&decide (n≤16) then some (some (.ret (.val (.slice (List.replicate n.toNat x))))) else some none
  |_=>some none)
 else none
noncomputable abbrev CF (kd:List UInt8→Int):Oracle:=cfW Tryz.prog ans (prims kd)
noncomputable abbrev LP (kd:List UInt8→Int):LpOracle:=lpW Tryz.prog ans (prims kd)
end Go.Proofs.YtkmnkiekmlcfdaaGreatDoor
end
section
namespace Go.AM.Lex
def small (c:UInt8):Bool:=decide (97≤c.toNat)&&decide (c.toNat≤122)
def great (c:UInt8):Bool:=decide (65≤c.toNat)&&decide (c.toNat≤90)
def digit (c:UInt8):Bool:=decide (48≤c.toNat)&&decide (c.toNat≤57)
def isPart (c:UInt8):Bool:=small c||great c||digit c||c==95
def words:List (List UInt8):=[[97,110,100],[99,97,115,101],[100,97,116,97],[101,108,115,101],[101,110,100],[102,110],[102,117,110],[105,102],[105,110],[105,110,112,117,116],[108,101,116],[111,102],[111,117,116,112,117,116],[116,104,101,110],[118,97,108]]
def tailOk (l:List UInt8):Bool :=
 match l.dropWhile isPart with
 |[]=>true
 |c::r=>c==39&&!r.isEmpty&&r.all digit
def kindOf (s:List UInt8):Int :=
 if 24 < s.length then 0 else
 match s with
 |[]=>0
 |c::r =>
  if small c then (if tailOk r then (if words.contains s then 5 else 2) else 0)
  else if great c then (if tailOk r then 3 else 0)
  else if c==39 then (match r with
   |d::q=>if small d&&q.all isPart then 4 else 0
   |[]=>0)
  else 0
end Go.AM.Lex
end
