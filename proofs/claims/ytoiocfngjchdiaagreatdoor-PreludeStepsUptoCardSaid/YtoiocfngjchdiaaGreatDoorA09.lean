import Derived.Test.YtoiocfngjchdiaaGreatDoorA08
import Derived.Test.YtoiocfngjchdiaaGreatDoorProg
set_option linter.all false
namespace Go.Proofs.YtoiocfngjchdiaaGreatDoor
open Go.AM
def aJ1:AF:={ nt:=0,keep:=[],loc:=[],take:=[],pure:=[],heads:=[] }
abbrev Ze:AF:=⟨116,[0,1,2,6,7,8,9,10,11,12,13,14,15,16,76,80,102],[10,11],[],[],[(13,[(2,none),(7,none),(10,none),(12,none),(13,none),(16,none)])],false,[]⟩
abbrev aN5:AF:=⟨184,[0,2,3,4,5,6,8,9,11,12,14,15,17,18,19,20,21,22,23,24,25,26,71,116,120,149,161,174],[6,9,12,15,18],[],[],[(17,[(3,none),(4,none),(20,none),(22,none),(24,none),(25,none)])],false,[]⟩
abbrev aN6:AF:=⟨120,[0,1,2,3,4,5,7,9,10,12,13,14,15,16,17,82],[2,4,6,8,10,13,15],[],[],[],true,[]⟩
abbrev Zd:AF:=⟨43,[0,1,4,5,6,7,8,10],[4,6,8],[],[],[],false,[]⟩
abbrev aN8:AF:=⟨33,[0,1,4,5,6,7,12,28],[7],[],[],[],true,[]⟩
abbrev Zc:AF:=⟨41,[0,1,2,3,4,5,6,7,8,9,10,11,12,18,24,34],[6,12],[],[],[],true,[]⟩
abbrev ZK:AF:=⟨46,[0,1,2,3,4,5,26,31,45],[2,3],[],[],[(4,[(2,none),(3,none),(5,none)])],false,[]⟩
abbrev ZJ:AF:=⟨11,[0,2,5],[],[],[],[],false,[]⟩
abbrev ZI:AF:=⟨6,[0,2],[2],[],[],[],false,[]⟩
abbrev ZH:AF:=⟨20,[0,2,3,4,8],[],[(5,0)],[],[(3,[(0,none),(3,none),(4,none)])],false,[]⟩
abbrev ZG:AF:=⟨23,[0,1,2,6,8,9],[7],[],[],[],false,[]⟩
abbrev ZF:AF:=⟨42,[0,1,4,5,6,7,8,9,10,33],[4,7,9],[],[],[],false,[]⟩
abbrev aVG:AF:=⟨49,[0,1,2,3,4,18,21,47],[1],[(5,0)],[(5,5)],[(2,[(1,none),(4,none)])],false,[]⟩
abbrev ZE:AF:=⟨22,[0,1,4,5,6,10,18],[],[],[],[(3,[(0,none),(1,none),(5,none),(6,none)])],false,[]⟩
abbrev aVH:AF:=⟨20,[0,2,3,4,8],[],[(5,0)],[],[(3,[(0,none),(3,none),(4,none)])],false,[]⟩
abbrev aVI:AF:=⟨22,[0,2,3,4,5,6,7,16],[2,5],[],[],[],true,[]⟩
abbrev ZD:AF:=⟨39,[0,1,4,5,6,7,9,10,15,20,21,22,23,35],[4,7,9],[],[],[(6,[(4,none),(7,none),(20,none),(21,none),(22,none)])],false,[]⟩
abbrev ZC:AF:=⟨27,[0,1,2,3,4,12],[1],[],[],[],false,[]⟩
abbrev ZB:AF:=⟨33,[0,1,4,5,7,10,32],[5],[],[],[],false,[]⟩
abbrev ZA:AF:=⟨21,[0,1,2,3,5,7,8,9,10,18],[1,5],[],[],[(3,[(3,none),(7,none),(8,none),(9,none)])],false,[]⟩
abbrev Yz:AF:=⟨6,[0,1,2,3,5],[],[],[],[],false,[]⟩
abbrev Zb:AF:=⟨27,[0,1,2,3,5,12,13,14,15],[1,2,3,5],[(5,1)],[],[(3,[(2,none),(3,none),(12,none),(13,none),(14,none)])],false,[]⟩
abbrev Za:AF:=⟨9,[0,1,4],[],[],[],[],false,[]⟩
abbrev Z9:AF:=⟨7,[0,2],[],[],[],[],false,[]⟩
abbrev Z8:AF:=⟨8,[0,1,2,3],[],[],[],[],false,[]⟩
abbrev Z7:AF:=⟨151,[0,1,2,6,7,8,9,10,11,12,13,14,16,17,22,23,24,35,36,51,57,58,59,107,108,109,110,118,132],[],[(18,0),(23,4),(29,0)],[(9,4),(9,8),(17,4),(17,8),(17,16),(17,20),(26,4),(29,4)],[(4,[(0,none),(1,none),(2,none),(7,none),(8,none),(9,none),(22,none),(23,none)]),(14,[(0,none),(1,none),(2,none),(7,none),(8,none),(9,none),(11,none),(12,none),(22,none),(23,none),(57,none),(58,none)]),(21,[(0,none),(1,none),(2,none),(7,none),(8,none),(9,none),(22,none),(23,none),(107,none),(108,none),(109,none)])],false,[8,9]⟩
abbrev Z6:AF:=⟨16,[0,2,3,5,8,9,10],[2,5],[],[],[],false,[]⟩
abbrev aVJ:AF:=⟨31,[0,2,3,5,6,8,9,10,11,12,18],[2,5,6],[],[],[(2,[(0,none),(2,none),(9,none),(10,none),(11,none)])],true,[]⟩
abbrev Z5:AF:=⟨31,[0,1,2,3,5,8,16,17,18,19],[1,2,3,5],[(7,1)],[],[(5,[(2,none),(3,none),(16,none),(17,none),(18,none)])],false,[]⟩
abbrev Z3:AF:=⟨40,[0,1,2,3,4],[1],[],[(4,22),(4,24)],[],false,[]⟩
abbrev ZZ:AF:=⟨23,[0,1,2,3,5,9,10,11,12],[1,5],[],[],[(3,[(3,none),(9,none),(10,none),(11,none)])],false,[]⟩
abbrev ZY:AF:=⟨23,[0,1,2,3,5,9,10,11,12],[1,5],[],[],[(3,[(3,none),(9,none),(10,none),(11,none)])],false,[]⟩
abbrev ZX:AF:=⟨16,[0,1,2,6,7,10,13],[],[],[],[],false,[]⟩
abbrev ZW:AF:=⟨9,[0,1,3,4],[],[],[],[],false,[]⟩
abbrev ZV:AF:=⟨111,[0,1,2,3,4,5,6,21,22,41,60,91],[1],[],[(1,2),(1,5),(1,8)],[],false,[]⟩
abbrev aVK:AF:=⟨17,[0,2,3,4],[3],[],[],[],true,[]⟩
abbrev ZU:AF:=⟨19,[0,1,2,3,6],[1],[(3,0)],[],[(2,[(1,none),(3,none)])],false,[]⟩
abbrev ZT:AF:=⟨9,[0,1,4],[],[],[],[],false,[]⟩
abbrev ZS:AF:=⟨6,[0,1,2],[1],[],[],[],false,[]⟩
abbrev ZR:AF:=⟨22,[0,1,4,5,6,7,8,9,10,20],[6],[],[],[(2,[(1,none),(7,none),(8,none),(9,none)])],false,[]⟩
abbrev aVL:AF:=⟨6,[0,2,3],[2],[],[],[],false,[]⟩
abbrev ZQ:AF:=⟨5,[0,2],[2],[],[],[],false,[]⟩
abbrev aVM:AF:=⟨6,[0,1,2],[1],[(1,3)],[],[],false,[]⟩
abbrev aVN:AF:=⟨9,[0,2],[2],[],[],[],false,[]⟩
abbrev aVO:AF:=⟨14,[0,1,2,3,4,6,7],[1,4],[(4,0)],[],[],false,[]⟩
abbrev aVP:AF:=⟨13,[0,1,4],[2,4],[],[],[],false,[]⟩
abbrev aVQ:AF:=⟨42,[0,1,4,5,6,12,19,30],[2,4,5],[],[],[(2,[(1,none),(4,none),(5,none)])],false,[]⟩
abbrev aVR:AF:=⟨10,[0,1,4],[2,4],[],[],[],false,[]⟩
abbrev aVS:AF:=⟨11,[0,1,4],[2,4],[],[],[],false,[]⟩
abbrev aVT:AF:=⟨10,[0,1,4],[2,4],[],[],[],false,[]⟩
abbrev aVU:AF:=⟨23,[0,1,4,5,7,12,13,14,15],[2,4,5],[],[],[(3,[(4,none),(5,none),(12,none),(13,none),(14,none)])],false,[]⟩
abbrev aVV:AF:=⟨27,[0,1,4,5,6,12,24],[2,4,6],[(5,0)],[],[(3,[(4,none),(5,none),(6,none)])],false,[]⟩
abbrev aVW:AF:=⟨21,[0,1,4,5,7,13,14,15],[2,4,7],[],[],[],false,[]⟩
abbrev ZP:AF:=⟨85,[0,1,4,5,6,17,22,30,40,71,72,73,83],[],[],[],[(13,[(0,none),(1,none),(71,none),(72,none)])],false,[]⟩
abbrev aOg:AF:=⟨11,[0,2,3,4,6,8,9],[2],[],[],[],false,[]⟩
abbrev aHF:AF:=⟨12,[0,1,2,6],[],[(1,4)],[],[],false,[]⟩
abbrev aN104:AF:=⟨186,[0,1,2,6,7,8,9,10,19,34,41,49,65,80,100,117,136,157],[],[(9,12),(11,11),(26,16)],[(9,3),(9,8),(20,3),(20,7),(20,11),(20,14),(22,4),(22,9)],[(1,[(0,none),(1,none),(2,none)])],false,[2]⟩
abbrev aHG:AF:=⟨56,[0,1,4,5,6,7,9,18,21,23,24,28,29,38,39,40,41],[4,7],[(14,1)],[],[(12,[(1,none),(4,none),(7,none),(38,none),(39,none),(40,none)])],false,[]⟩
abbrev aHH:AF:=⟨8,[0,1,4],[4],[],[],[],false,[]⟩
abbrev aHI:AF:=⟨4,[0,1,2],[],[],[],[],false,[]⟩
abbrev aHJ:AF:=⟨10,[0,1,2,3,4,5],[],[],[],[],false,[]⟩
abbrev aHK:AF:=⟨10,[0,1,2,3,4,5],[],[],[],[],false,[]⟩
abbrev aHL:AF:=⟨158,[0,1,2,3,13,50,52,53,62,71,77,86,100,109,123,148],[1],[],[],[],false,[]⟩
abbrev aHM:AF:=⟨61,[0,1,3,5,7,9,11,12,16,17,18,19,23,24,25,26,34,40,43,44,45,46,54],[3,5,7,9],[],[],[(4,[(0,none),(16,none),(17,none),(18,none)]),(7,[(0,none),(16,none),(17,none),(18,none),(23,none),(24,none),(25,none)]),(16,[(0,none),(43,none),(44,none),(45,none)])],false,[]⟩
abbrev aHN:AF:=⟨61,[0,1,3,5,7,9,11,12,16,17,18,19,23,24,25,26,34,40,43,44,45,46,54],[3,5,7,9],[],[],[(4,[(0,none),(16,none),(17,none),(18,none)]),(7,[(0,none),(16,none),(17,none),(18,none),(23,none),(24,none),(25,none)]),(16,[(0,none),(43,none),(44,none),(45,none)])],false,[]⟩
abbrev aHO:AF:=⟨9,[0,1,4],[],[],[],[],false,[]⟩
abbrev aHP:AF:=⟨8,[0,1,2,3],[2],[],[],[],false,[]⟩
abbrev aHQ:AF:=⟨18,[0,1,2],[1],[],[],[],false,[]⟩
abbrev aHR:AF:=⟨12,[0,1,2],[1],[],[],[],false,[]⟩
abbrev aHS:AF:=⟨33,[0,1,2],[1],[],[],[],false,[]⟩
abbrev aHT:AF:=⟨36,[0,1,2,3],[1],[],[],[],false,[]⟩
abbrev aHU:AF:=⟨6,[0,2],[],[],[],[],false,[]⟩
abbrev aHV:AF:=⟨46,[0,1,2,6,7,15,29],[1],[],[],[],false,[]⟩
abbrev aHW:AF:=⟨9,[0,1,3,4],[],[],[],[],false,[]⟩
abbrev aHX:AF:=⟨16,[0,1,2],[1],[],[],[],false,[]⟩
abbrev aHY:AF:=⟨9,[0,1,4],[],[],[],[],false,[]⟩
abbrev aHZ:AF:=⟨19,[0,1,4,5,7,8,9,16],[],[],[],[(2,[(0,none),(1,none),(7,none),(8,none)])],false,[]⟩
abbrev aH0:AF:=⟨132,[0,1,2,3,4,5,8,9,14,28,39,63,86,111],[2],[],[],[],false,[]⟩
abbrev aOk:AF:=⟨5,[0,2],[],[(1,2)],[],[],false,[]⟩
abbrev aOl:AF:=⟨4,[0,1,2],[],[],[],[],false,[]⟩
abbrev aOn:AF:=⟨61,[0,1,3,4,5,8,20,40],[3,4],[],[(5,5),(5,15),(7,13),(7,15)],[],false,[]⟩
abbrev aOo:AF:=⟨26,[0,1,3,4,7],[3],[(2,0),(2,1),(3,0),(3,17)],[(3,5),(3,16)],[],false,[]⟩
abbrev aOp:AF:=⟨18,[0,1,2,5],[1],[],[(3,4),(3,9)],[],false,[]⟩
abbrev aH1:AF:=⟨6,[0,2],[],[],[],[],false,[]⟩
abbrev aH2:AF:=⟨23,[0,1,4,6,16],[],[],[],[(1,[(0,none),(1,none),(4,none)])],false,[]⟩
abbrev aH3:AF:=⟨25,[0,1,2,6,7,8,10,11,12],[],[(5,0)],[],[(3,[(0,none),(1,none),(2,none),(7,none),(10,none),(11,none)])],false,[]⟩
abbrev aH4:AF:=⟨49,[0,1,2,6,7,8,9,10,11,28,40],[11],[(7,3)],[],[],false,[]⟩
abbrev aH5:AF:=⟨43,[0,1,2,6,7,8,9,10,15,16,17,31],[],[],[],[(2,[(0,none),(1,none),(2,none),(6,none),(7,none),(15,none),(16,none)])],false,[]⟩
abbrev aH6:AF:=⟨19,[0,1,3,8,18],[],[],[],[(1,[(0,none),(1,none),(3,none)])],false,[]⟩
abbrev aH7:AF:=⟨6,[0,2],[],[],[],[],false,[]⟩
abbrev aH8:AF:=⟨9,[0,1,4],[],[],[],[],false,[]⟩
abbrev aH9:AF:=⟨19,[0,1,2,16],[],[],[],[],false,[]⟩
abbrev aIa:AF:=⟨33,[0,1,2,4,6,8,9,10,11,21,22,23,24],[4,6],[],[],[(1,[(0,none),(1,none),(2,none),(8,none),(9,none),(10,none)]),(6,[(1,none),(2,none),(21,none),(22,none),(23,none)])],false,[]⟩
abbrev aIb:AF:=⟨10,[0,1,2,3,4,5],[],[],[],[],false,[]⟩
abbrev aIc:AF:=⟨33,[0,1,2,23],[],[],[],[],false,[]⟩
abbrev aId:AF:=⟨33,[0,1,2,4,6,8,9,10,11,21,22,23,24],[4,6],[],[],[(1,[(0,none),(1,none),(2,none),(8,none),(9,none),(10,none)]),(6,[(1,none),(2,none),(21,none),(22,none),(23,none)])],false,[]⟩
abbrev aIe:AF:=⟨10,[0,1,2,3,4,5],[],[],[],[],false,[]⟩
abbrev aIf:AF:=⟨9,[0,1,3,4],[],[],[],[],false,[]⟩
abbrev aIg:AF:=⟨9,[0,1,3,4],[],[],[],[],false,[]⟩
abbrev aIh:AF:=⟨42,[0,1,2,6,8,9,20],[1],[],[],[],false,[]⟩
abbrev aIi:AF:=⟨23,[0,1,4],[],[],[],[],false,[]⟩
abbrev aIj:AF:=⟨2,[0],[],[],[],[],false,[]⟩
abbrev aIk:AF:=⟨10,[0,1,2,3,4,5],[],[],[],[],false,[]⟩
abbrev aIl:AF:=⟨10,[0,1,2,3,4,5],[],[],[],[],false,[]⟩
abbrev aIm:AF:=⟨19,[0,1,4,5,7,8,9,16],[],[],[],[(2,[(0,none),(1,none),(7,none),(8,none)])],false,[]⟩
abbrev aIn:AF:=⟨17,[0,1,2],[1],[],[],[],false,[]⟩
abbrev aIo:AF:=⟨9,[0,1,3,4],[],[],[],[],false,[]⟩
abbrev aIp:AF:=⟨9,[0,1,3,4],[],[],[],[],false,[]⟩
abbrev aIq:AF:=⟨9,[0,1,3,4],[],[],[],[],false,[]⟩
abbrev aOs:AF:=⟨35,[0,2,4,5,8,30],[5],[],[],[],true,[]⟩
abbrev aIr:AF:=⟨9,[0,1,4],[],[],[],[],false,[]⟩
abbrev aIs:AF:=⟨8,[0,1,2,3],[2],[],[],[],false,[]⟩
abbrev aIt:AF:=⟨19,[0,1,4,5,7,8,9,16],[],[],[],[(2,[(0,none),(1,none),(7,none),(8,none)])],false,[]⟩
abbrev aIu:AF:=⟨16,[0,1,3],[],[],[],[],false,[]⟩
abbrev aOt:AF:=⟨15,[0,1,2,4,5,6,7],[5],[(3,0),(4,0),(4,1)],[],[],false,[]⟩
abbrev aOu:AF:=⟨17,[0,1,5,12],[],[],[],[(0,[(0,none),(1,none)])],false,[]⟩
abbrev aIv:AF:=⟨19,[0,1,4,5,7,8,9,16],[],[],[],[(2,[(0,none),(1,none),(7,none),(8,none)])],false,[]⟩
abbrev aIw:AF:=⟨54,[0,1,2,6,7,8,9,11,16,21,26,29,33,36,40,46],[6],[],[],[],false,[]⟩
abbrev aIx:AF:=⟨30,[0,1,2,6,7,11,12,15],[],[],[],[],false,[]⟩
abbrev aIy:AF:=⟨19,[0,1,4,5,7,8,9,16],[],[],[],[(2,[(0,none),(1,none),(7,none),(8,none)])],false,[]⟩
abbrev aIz:AF:=⟨18,[0,1,2,4,6,7,8,9],[4],[],[],[(1,[(1,none),(2,none),(6,none),(7,none),(8,none)])],false,[]⟩
abbrev aIA:AF:=⟨18,[0,1,2,4,6,7,8,9],[4],[],[],[(1,[(1,none),(2,none),(6,none),(7,none),(8,none)])],false,[]⟩
abbrev aIB:AF:=⟨9,[0,1,4],[],[],[],[],false,[]⟩
abbrev aIC:AF:=⟨8,[0,1,2,3],[2],[],[],[],false,[]⟩
abbrev aID:AF:=⟨9,[0,1,4],[],[],[],[],false,[]⟩
abbrev aIE:AF:=⟨8,[0,1,2,3],[2],[],[],[],false,[]⟩
abbrev aIF:AF:=⟨18,[0,1,2,4,6,7,8,9],[4],[],[],[(1,[(1,none),(2,none),(6,none),(7,none),(8,none)])],false,[]⟩
abbrev aIG:AF:=⟨18,[0,1,2,4,6,7,8,9],[4],[],[],[(1,[(1,none),(2,none),(6,none),(7,none),(8,none)])],false,[]⟩
abbrev aIH:AF:=⟨8,[0,1,2,3],[2],[],[],[],false,[]⟩
abbrev aII:AF:=⟨9,[0,1,4],[],[],[],[],false,[]⟩
abbrev aIJ:AF:=⟨8,[0,1,3],[],[],[],[],false,[]⟩
abbrev aIK:AF:=⟨9,[0,1,4],[],[],[],[],false,[]⟩
abbrev aIL:AF:=⟨8,[0,1,2,3],[2],[],[],[],false,[]⟩
abbrev aIM:AF:=⟨19,[0,1,4,5,7,8,9,16],[],[],[],[(2,[(0,none),(1,none),(7,none),(8,none)])],false,[]⟩
abbrev aIN:AF:=⟨6,[0,2,3],[2],[],[],[],false,[]⟩
abbrev aIO:AF:=⟨19,[0,1,4,5,7,8,9,16],[],[],[],[(2,[(0,none),(1,none),(7,none),(8,none)])],false,[]⟩
abbrev aIP:AF:=⟨19,[0,1,4,5,7,8,9,16],[],[],[],[(2,[(0,none),(1,none),(7,none),(8,none)])],false,[]⟩
abbrev aIQ:AF:=⟨19,[0,1,4,5,7,8,9,16],[],[],[],[(2,[(0,none),(1,none),(7,none),(8,none)])],false,[]⟩
abbrev aIR:AF:=⟨9,[2,6,7],[],[],[],[],false,[]⟩
abbrev aIS:AF:=⟨9,[2,6,7],[],[],[],[],false,[]⟩
abbrev aIT:AF:=⟨64,[0,1,2,6,7,8,9,31,37,38,39,60],[],[],[],[(5,[(0,none),(1,none),(2,none),(37,none),(38,none)])],false,[]⟩
def aJ2:List (Nat×AF):=[(4,Ze),(5,aN5),(6,aN6),(7,Zd),(8,aN8),(9,Zc),(10,ZK),(11,ZJ),(12,ZI),(13,ZH),(14,ZG),(15,ZF),(16,aVG),(17,ZE),(18,aVH),(20,aVI),(22,ZD),(23,ZC),(24,ZB),(27,ZA),(28,Yz),(29,Zb),(31,Za),(32,Z9),(33,Z8),(34,Z7),(35,Z6),(37,aVJ),(39,Z5),(40,Z3),(41,ZZ),(42,ZY),(43,ZX),(44,ZW),(45,ZV),(46,aVK),(47,ZU),(48,ZT),(49,ZS),(50,ZR),(55,aVL),(59,ZQ),(62,aVM),(63,aVN),(66,aVO),(87,aVP),(88,aVQ),(89,aVR),(90,aVS),(91,aVT),(92,aVU),(93,aVV),(94,aVW),(95,ZP),(101,aOg),(102,aHF),(104,aN104),(105,aHG),(106,aHH),(107,aHI),(115,aHJ),(116,aHK),(117,aHL),(118,aHM),(119,aHN),(120,aHO),(121,aHP),(122,aHQ),(123,aHR),(124,aHS),(125,aHT),(126,aHU),(127,aHV),(128,aHW),(129,aHX),(130,aHY),(132,aHZ),(133,aH0),(134,aOk),(135,aOl),(147,aOn),(148,aOo),(149,aOp),(150,aH1),(158,aH2),(159,aH3),(160,aH4),(161,aH5),(162,aH6),(172,aH7),(173,aH8),(174,aH9),(175,aIa),(176,aIb),(177,aIc),(178,aId),(179,aIe),(180,aIf),(181,aIg),(182,aIh),(183,aIi),(184,aIj),(185,aIk),(186,aIl),(187,aIm),(188,aIn),(189,aIo),(190,aIp),(191,aIq),(192,aOs),(193,aIr),(194,aIs),(195,aIt),(196,aIu),(197,aOt),(198,aOu),(214,aIv),(216,aIw),(217,aIx),(228,aIy),(229,aIz),(230,aIA),(231,aIB),(232,aIC),(233,aID),(234,aIE),(235,aIF),(236,aIG),(237,aIH),(238,aII),(239,aIJ),(240,aIK),(241,aIL),(243,aIM),(252,aIN),(261,aIO),(262,aIP),(263,aIQ),(370,aIR),(371,aIS),(372,aIT)]
def aIV:List (Nat×AF)->Nat->AF
 |[],_=>aJ1
 |(g,a)::l,f=>bif Nat.beq g f then a else aIV l f
def ans(f:FuncId):AF:=aIV aJ2 f
end Go.Proofs.YtoiocfngjchdiaaGreatDoor
namespace Go.AM
inductive TyD where
 |mk (name:List UInt8) (args:List TyD)
mutual
def TyD.enc:TyD->AVal
 |.mk n al=>.agg [.str n,.slice (TyD.encs al)]
def TyD.encs:List TyD->List AVal
 |[]=>[]
 |t::ts=>t.enc::TyD.encs ts
end
theorem TyD.encs_eq(l:List TyD):TyD.encs l=l.map TyD.enc:=by
 induction l with
 |nil=>simp[TyD.encs]
 |cons t ts ih=>simp[TyD.encs,ih]
end Go.AM
noncomputable section
namespace Go.Proofs.YtoiocfngjchdiaaGreatDoor
def kdTab:List (List UInt8×Int):=[([39,97],4),([39,98],4),([67,111,110,115],3),([69,110,100],3),([70,97,108,115,101],3),([73,110,116],3),([73,110,116,115],3),([73,116,101,109],3),([76,101,97,102],3),([76,105,115,116],3),([78,105,108],3),([78,111,100,101],3),([78,111,110,101],3),([79,112,116,105,111,110],3),([83,111,109,101],3),([84,114,101,101],3),([84,114,117,101],3),([97],2),([97,98,115],2),([97,108,108],2),([97,110,121],2),([97,112,112,101,110,100],2),([98],2),([98,111,116,104],2),([99,111,109,112,111,115,101],2),([99,111,110,99,97,116],2),([99,111,110,115,116],2),([100,114,111,112],2),([101,105,116,104,101,114],2),([102],2),([102,105,108,116,101,114],2),([102,108,105,112],2),([102,111,108,100,108],2),([102,111,108,100,114],2),([102,115,116],2),([103],2),([103,99,100],2),([103,111],2),([104],2),([105],2),([105,100],2),([105,110,115,101,114,116],2),([105,115,111,114,116],2),([105,116,101,109,115],2),([107],2),([108],2),([108,101,110,103,116,104],2),([108,105,115,116],2),([108,111,111,107,117,112],2),([109,97,112],2),([109,97,120],2),([109,101,109,98,101,114],2),([109,101,114,103,101],2),([109,105,110],2),([109,115,111,114,116],2),([110],2),([110,111,116],2),([110,116,104],2),([111],2),([112],2),([112,97,114,116,105,116,105,111,110],2),([112,111,119,101,114],2),([112,114,111,100,117,99,116],2),([113,115,111,114,116],2),([114],2),([114,97,110,103,101],2),([114,101,112,108,105,99,97,116,101],2),([114,101,118,101,114,115,101],2),([115],2),([115,110,100],2),([115,112,108,105,116],2),([115,117,109],2),([116],2),([116,97,107,101],2),([116,100,101,112,116,104],2),([116,105,110,115,101,114,116],2),([116,108,105,115,116],2),([116,109,101,109,98,101,114],2),([116,114,101,101],2),([116,115,105,122,101],2),([117,110,122,105,112],2),([118],2),([120],2),([121],2),([122],2),([122,105,112],2)]
def eD(s:List UInt8):Option Int:=(kdTab.find? λp=>p.1==s).map (·.2)
theorem aCU{s:List UInt8}{k:Int}(h:eD s=some k):(s,k)∈kdTab:=by
 simp only[eD,Ap] at h;obtain⟨p,h1,h2⟩:=h;have h3:=List.find?_some h1;have h4:=Fw h1;obtain⟨a,b⟩:=p;simp only[Bx] at h3;subst h3 h2;exact h4
section
open Go.AM
def tyTab:List (List UInt8×TyD):=[
 ([97,112,112,101,110,100],.mk [45,62] [.mk [76,105,115,116] [.mk [39,97] []],.mk [45,62] [.mk [76,105,115,116] [.mk [39,97] []],.mk [76,105,115,116] [.mk [39,97] []]]]),
 ([122,105,112],.mk [45,62] [.mk [76,105,115,116] [.mk [39,97] []],.mk [45,62] [.mk [76,105,115,116] [.mk [39,98] []],.mk [76,105,115,116] [.mk [44] [.mk [39,97] [],.mk [39,98] []]]]]),
 ([114,101,118,101,114,115,101],.mk [45,62] [.mk [76,105,115,116] [.mk [39,97] []],.mk [76,105,115,116] [.mk [39,97] []]]),
 ([108,101,110,103,116,104],.mk [45,62] [.mk [76,105,115,116] [.mk [39,97] []],.mk [73,110,116] []]),
 ([115,117,109],.mk [45,62] [.mk [76,105,115,116] [.mk [73,110,116] []],.mk [73,110,116] []]),
 ([116,97,107,101],.mk [45,62] [.mk [73,110,116] [],.mk [45,62] [.mk [76,105,115,116] [.mk [39,97] []],.mk [76,105,115,116] [.mk [39,97] []]]]),
 ([109,115,111,114,116],.mk [45,62] [.mk [76,105,115,116] [.mk [73,110,116] []],.mk [76,105,115,116] [.mk [73,110,116] []]]),
 ([105,115,111,114,116],.mk [45,62] [.mk [76,105,115,116] [.mk [73,110,116] []],.mk [76,105,115,116] [.mk [73,110,116] []]]),
 ([113,115,111,114,116],.mk [45,62] [.mk [76,105,115,116] [.mk [73,110,116] []],.mk [76,105,115,116] [.mk [73,110,116] []]]),
 ([116,114,101,101],.mk [45,62] [.mk [76,105,115,116] [.mk [73,110,116] []],.mk [84,114,101,101] [.mk [73,110,116] []]]),
 ([116,108,105,115,116],.mk [45,62] [.mk [84,114,101,101] [.mk [39,97] []],.mk [76,105,115,116] [.mk [39,97] []]])]
def sT(s:List UInt8):Option TyD:=(tyTab.find? λp=>p.1==s).map (·.2)
def nX(s:List UInt8):Bool:=eD s==some 3
class Aps where
 ap:List Slot->Option (Option ARes)
 rn:List Slot->Option (Option ARes)
 pg:AVal
def kD[Aps]:fY:=λf args =>
 bif Nat.beq f 8 then Aps.ap args
 else bif Nat.beq f 9 then Aps.rn args
 else bif Nat.beq f 6 then(match args with
  |[]=>some (some (.ret (.val (.bool true))))
  |_=>some none)
 else bif Nat.beq f 20 then(match args with
  |[.val (.str [])]=>some (some (.ret (.tup [Aps.pg,.int .i64 0,.int .i64 0])))
  |_=>some none)
 else bif Nat.beq f 37 then(match args with
  |[.val (.str s)]=>some ((sT s).map λt=>.ret (.tup [t.enc,.bool true]))
  |_=>some none)
 else bif Nat.beq f 46 then(match args with
  |[.val (.str s)]=>some ((sT s).map λ_=>.ret (.val (.bool true)))
  |_=>some none)
 else bif Nat.beq f 192 then(match args with
  |[.val (.str s)]=>some ((eD s).map λk=>.ret (.val (.int .i64 k)))
  |_=>some none)
 else none
noncomputable abbrev CF[Aps]:aJ:=GC Tryz.prog ans kD
noncomputable abbrev LP[Aps]:aQ:=HM Tryz.prog ans kD
inductive VaD where
 |mk (con:List UInt8) (num:Int) (args:List VaD)
def VaD.con:VaD->List UInt8|.mk c _ _=>c
def VaD.num:VaD->Int|.mk _ n _=>n
def VaD.args:VaD->List VaD|.mk _ _ al=>al
mutual
def VaD.enc:VaD->AVal
 |.mk c n al=>.agg [.str c,.int .i64 n,.slice (VaD.encs al)]
def VaD.encs:List VaD->List AVal
 |[]=>[]
 |t::ts=>t.enc::VaD.encs ts
end
theorem VaD.encs_eq(l:List VaD):VaD.encs l=l.map VaD.enc:=by
 induction l with
 |nil=>simp[VaD.encs]
 |cons t ts ih=>simp[VaD.encs,ih]
theorem VaD.enc_mk(c:List UInt8)(n:Int)(al:List VaD):(VaD.mk c n al).enc=.agg [.str c,.int .i64 n,.slice (al.map VaD.enc)]:=by simp[VaD.enc,VaD.encs_eq]
theorem VaD.enc_eq(t:VaD):t.enc=.agg [.str t.con,.int .i64 t.num,.slice (t.args.map VaD.enc)]:=by cases t;exact VaD.enc_mk _ _ _
mutual
def VaD.size:VaD->Nat
 |.mk c _ al=>c.length+1+VaD.sizes al
def VaD.sizes:List VaD->Nat
 |[]=>0
 |t::ts=>t.size+1+VaD.sizes ts
end
theorem VaD.sizes_len(l:List VaD):l.length<=VaD.sizes l:=by
 induction l with
 |nil=>simp[VaD.sizes]
 |cons t ts ih=>simp only[VaD.sizes,An];omega
theorem VaD.sizes_mem{t:VaD}:∀{l:List VaD},t∈l->t.size<VaD.sizes l
 |x::l,h=>by
  simp only[VaD.sizes];rcases Au.1 h with h|h
  ·subst h;omega
  ·have:=VaD.sizes_mem h;omega
theorem VaD.args_len(t:VaD):t.args.length<t.size:=by
 cases t;simp only[VaD.args,VaD.size];have:=VaD.sizes_len ‹_›;omega
theorem VaD.args_size{t a:VaD}(h:a∈t.args):a.size<t.size:=by
 cases t;simp only[VaD.args] at h;simp only[VaD.size];have:=VaD.sizes_mem h;omega
theorem VaD.ind{p:VaD->Prop}(h:∀t,(∀a∈t.args,p a)->p t):∀t,p t:=by
 have:∀n t,t.size<n->p t:=by
  intro n;induction n with
  |zero=>intro t ht;omega
  |succ n ih=>intro t ht;exact h t λa ha=>ih a (by have:=VaD.args_size ha;omega)
 exact λt=>this (t.size+1) t (by omega)
abbrev AV:Nat:=4294967296
theorem dK{α:Type}(enc:α->AVal)(pre ys:List α)(y:α):((pre++y::ys).map enc)[((pre.length:Nat):Int).toNat]?=some (enc y):=by simp
theorem CY{α:Type}(pre ys:List α)(y:α):decide (((pre.length:Nat):Int)<((pre++y::ys).length:Nat))=true:=by simp;omega
theorem DL{α:Type}(l:List α):decide (((l.length:Nat):Int)<(l.length:Nat))=false:=by simp
theorem zI(n:Nat):decide (0<=((n:Nat):Int))=true:=by simp
theorem wI(n:Nat)(h:n<AV):IntKind.i64.wrap (((n:Nat):Int)+1)=((n+1:Nat):Int):=by
 simp only[AV] at h;rw[sk (by omega) (by omega)];rfl
theorem wL{α:Type}(pre ys:List α)(y:α)(h:(pre++y::ys).length<AV):IntKind.i64.wrap (((pre.length:Nat):Int)+1)=((pre++[y]).length:Nat):=by
 rw[wI _ (by simp at h ⊢;omega)];simp
end
end Go.Proofs.YtoiocfngjchdiaaGreatDoor
end
