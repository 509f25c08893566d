import Derived.Test.YtoiocfngjchdiaaGreatDoorT00
set_option linter.all false
set_option maxRecDepth 100000
set_option maxHeartbeats 8000000
namespace Go.Proofs.YtoiocfngjchdiaaGreatDoor
open Go.AM
abbrev Kx:List UInt8:=[39,97]
abbrev bI:List UInt8:=[67,111,110,115]
abbrev WH:List UInt8:=[69,110,100]
abbrev cD:List UInt8:=[70,97,108,115,101]
abbrev WC:List UInt8:=[73,110,116]
abbrev aKn:List UInt8:=[73,110,116,115]
abbrev Wx:List UInt8:=[73,116,101,109]
abbrev kP:List UInt8:=[76,101,97,102]
abbrev aKp:List UInt8:=[76,105,115,116]
abbrev dP:List UInt8:=[78,105,108]
abbrev jI:List UInt8:=[78,111,100,101]
abbrev Ww:List UInt8:=[78,111,110,101]
abbrev aGo:List UInt8:=[79,112,116,105,111,110]
abbrev Wv:List UInt8:=[83,111,109,101]
abbrev Wu:List UInt8:=[84,114,101,101]
abbrev cV:List UInt8:=[84,114,117,101]
abbrev Zr:List UInt8:=[97,98,115]
abbrev aWJ:List UInt8:=[97,108,108]
abbrev Zq:List UInt8:=[97,110,121]
abbrev qM:List UInt8:=[97,112,112,101,110,100]
abbrev aSJ:List UInt8:=[98,111,116,104]
abbrev aD5:List UInt8:=[99,111,109,112,111,115,101]
abbrev aHo:List UInt8:=[99,111,110,99,97,116]
abbrev aNL:List UInt8:=[99,111,110,115,116]
abbrev U8:List UInt8:=[100,114,111,112]
abbrev aHp:List UInt8:=[101,105,116,104,101,114]
abbrev aHq:List UInt8:=[102,105,108,116,101,114]
abbrev aSK:List UInt8:=[102,108,105,112]
abbrev pH:List UInt8:=[102,111,108,100,108]
abbrev gS:List UInt8:=[102,111,108,100,114]
abbrev aWK:List UInt8:=[102,115,116]
abbrev Zp:List UInt8:=[103,99,100]
abbrev He:List UInt8:=[103,111]
abbrev nId:List UInt8:=[105,100]
abbrev n6:List UInt8:=[105,110,115,101,114,116]
abbrev lM:List UInt8:=[105,115,111,114,116]
abbrev y3:List UInt8:=[105,116,101,109,115]
abbrev aHr:List UInt8:=[108,101,110,103,116,104]
abbrev U':List UInt8:=[108,105,115,116]
abbrev a3Y:List UInt8:=[108,111,111,107,117,112]
abbrev aWL:List UInt8:=[109,97,112]
abbrev Zo:List UInt8:=[109,97,120]
abbrev aHs:List UInt8:=[109,101,109,98,101,114]
abbrev nA:List UInt8:=[109,101,114,103,101]
abbrev aWM:List UInt8:=[109,105,110]
abbrev iR:List UInt8:=[109,115,111,114,116]
abbrev aWN:List UInt8:=[110,111,116]
abbrev Zn:List UInt8:=[110,116,104]
abbrev gT:List UInt8:=[112,97,114,116,105,116,105,111,110]
abbrev y4:List UInt8:=[112,111,119,101,114]
abbrev aD8:List UInt8:=[112,114,111,100,117,99,116]
abbrev iS:List UInt8:=[113,115,111,114,116]
abbrev y5:List UInt8:=[114,97,110,103,101]
abbrev a2S:List UInt8:=[114,101,112,108,105,99,97,116,101]
abbrev aEa:List UInt8:=[114,101,118,101,114,115,101]
abbrev aWO:List UInt8:=[115,110,100]
abbrev xB:List UInt8:=[115,112,108,105,116]
abbrev aWP:List UInt8:=[115,117,109]
abbrev U_:List UInt8:=[116,97,107,101]
abbrev eu:List UInt8:=[116,100,101,112,116,104]
abbrev gD:List UInt8:=[116,105,110,115,101,114,116]
abbrev jP:List UInt8:=[116,108,105,115,116]
abbrev xG:List UInt8:=[116,109,101,109,98,101,114]
abbrev qN:List UInt8:=[116,114,101,101]
abbrev ug:List UInt8:=[116,115,105,122,101]
abbrev zQ:List UInt8:=[117,110,122,105,112]
abbrev Zm:List UInt8:=[122,105,112]
abbrev nu(n:Int):af:=.mk 1 n [] [] [] []
abbrev va(s:List UInt8):af:=.mk 2 0 s [] [] []
abbrev cn(s:List UInt8)(l:List af):af:=.mk 3 0 s [] l []
abbrev ap(f a:af):af:=.mk 4 0 [] [] [f,a] []
abbrev la(s:List UInt8)(b:af):af:=.mk 5 0 [] s [b] []
abbrev rc(f s:List UInt8)(b c:af):af:=.mk 7 0 f s [b,c] []
abbrev cs(e:af)(l:List af)(p:List ag):af:=.mk 8 0 [] [] (e::l) p
abbrev op(s:List UInt8)(a b:af):af:=.mk 9 0 s [] [a,b] []
abbrev pw:ag:=.mk 1 [] []
abbrev pv(s:List UInt8):ag:=.mk 2 s []
abbrev pc(s:List UInt8)(l:List ag):ag:=.mk 3 s l
abbrev bId:af:=va [120]
abbrev aLu:af:=la [121] (va [120])
abbrev aCa:af:=la [103] (la [120] (ap (va [102]) (ap (va [103]) (va [120]))))
abbrev aRH:af:=la [120] (la [121] (ap (ap (va [102]) (va [121])) (va [120])))
abbrev aVA:af:=cs (va [112]) [va [97]] [pc [44] [pv [97],pv [98]]]
abbrev aVK:af:=cs (va [112]) [va [98]] [pc [44] [pv [97],pv [98]]]
abbrev aVF:af:=cs (va [98]) [cn cD [],cn cV []] [pc cV [],pc cD []]
abbrev aRF:af:=la [98] (cs (va [97]) [va [98],cn cD []] [pc cV [],pc cD []])
abbrev aFX:af:=la [98] (cs (va [97]) [cn cV [],va [98]] [pc cV [],pc cD []])
abbrev aVx:af:=cs (op [60] (va [110]) (nu 0)) [op [45] (nu 0) (va [110]),va [110]] [pc cV [],pc cD []]
abbrev aVE:af:=la [98] (cs (op [60] (va [98]) (va [97])) [va [98],va [97]] [pc cV [],pc cD []])
abbrev aVD:af:=la [98] (cs (op [60] (va [97]) (va [98])) [va [98],va [97]] [pc cV [],pc cD []])
abbrev aVB:af:=la [98] (cs (op [61] (va [98]) (nu 0)) [ap (va Zr) (va [97]),ap (ap (va Zp) (va [98])) (op [37] (va [97]) (va [98]))] [pc cV [],pc cD []])
abbrev aLw:af:=la [110] (cs (op [60] (va [110]) (nu 1)) [nu 1,op [42] (va [97]) (ap (ap (va y4) (va [97])) (op [45] (va [110]) (nu 1)))] [pc cV [],pc cD []])
abbrev aVC:af:=rc He [108] (cs (va [108]) [cn dP [],cn bI [ap (va [102]) (va [104]),ap (va He) (va [116])]] [pc dP [],pc bI [pv [104],pv [116]]]) (va He)
abbrev aFY:af:=rc He [108] (cs (va [108]) [cn dP [],cs (ap (va [112]) (va [104])) [cn bI [va [104],ap (va He) (va [116])],ap (va He) (va [116])] [pc cV [],pc cD []]] [pc dP [],pc bI [pv [104],pv [116]]]) (va He)
abbrev bz:af:=la [122] (rc He [108] (cs (va [108]) [va [122],ap (ap (va [102]) (va [104])) (ap (va He) (va [116]))] [pc dP [],pc bI [pv [104],pv [116]]]) (va He))
abbrev rm:af:=rc He [122] (la [108] (cs (va [108]) [va [122],ap (ap (va He) (ap (ap (va [102]) (va [122])) (va [104]))) (va [116])] [pc dP [],pc bI [pv [104],pv [116]]])) (va He)
abbrev a20:af:=la [98] (ap (ap (ap (va gS) (la [104] (la [116] (cn bI [va [104],va [116]])))) (va [98])) (va [97]))
abbrev aCm:af:=ap (ap (ap (va pH) (la [116] (la [104] (cn bI [va [104],va [116]])))) (cn dP [])) (va [108])
abbrev aFW:af:=ap (ap (ap (va gS) (va qM)) (cn dP [])) (va [108])
abbrev aFZ:af:=ap (ap (ap (va pH) (la [110] (la [104] (op [43] (va [110]) (nu 1))))) (nu 0)) (va [108])
abbrev aVL:af:=ap (ap (ap (va gS) (la [104] (la [110] (op [43] (va [104]) (va [110]))))) (nu 0)) (va [108])
abbrev aCb:af:=ap (ap (ap (va gS) (la [104] (la [110] (op [42] (va [104]) (va [110]))))) (nu 1)) (va [108])
abbrev aVy:af:=ap (ap (va gS) (la [104] (la [98] (cs (ap (va [112]) (va [104])) [va [98],cn cD []] [pc cV [],pc cD []])))) (cn cV [])
abbrev aVz:af:=ap (ap (va gS) (la [104] (la [98] (cs (ap (va [112]) (va [104])) [cn cV [],va [98]] [pc cV [],pc cD []])))) (cn cD [])
abbrev aRO:af:=la [108] (cs (op [60] (va [110]) (nu 1)) [cn dP [],cs (va [108]) [cn dP [],cn bI [va [104],ap (ap (va U_) (op [45] (va [110]) (nu 1))) (va [116])]] [pc dP [],pc bI [pv [104],pv [116]]]] [pc cV [],pc cD []])
abbrev aRG:af:=la [108] (cs (op [60] (va [110]) (nu 1)) [va [108],cs (va [108]) [cn dP [],ap (ap (va U8) (op [45] (va [110]) (nu 1))) (va [116])] [pc dP [],pc bI [pv [104],pv [116]]]] [pc cV [],pc cD []])
abbrev aVG:af:=la [108] (cs (va [108]) [cn Ww [],cs (op [61] (va [110]) (nu 0)) [cn Wv [va [104]],ap (ap (va Zn) (op [45] (va [110]) (nu 1))) (va [116])] [pc cV [],pc cD []]] [pc dP [],pc bI [pv [104],pv [116]]])
abbrev aVM:af:=la [98] (cs (cn [44] [va [97],va [98]]) [cn bI [cn [44] [va [120],va [121]],ap (ap (va Zm) (va [114])) (va [115])],cn dP []] [pc [44] [pc bI [pv [120],pv [114]],pc bI [pv [121],pv [115]]],pw])
abbrev aLH:af:=cs (va [108]) [cn [44] [cn dP [],cn dP []],cs (ap (va zQ) (va [116])) [cn [44] [cn bI [va [120],va [97]],cn bI [va [121],va [98]]]] [pc [44] [pv [97],pv [98]]]] [pc dP [],pc bI [pc [44] [pv [120],pv [121]],pv [116]]]
abbrev aLE:af:=la [98] (cs (op [60] (va [97]) (va [98])) [cn bI [va [97],ap (ap (va y5) (op [43] (va [97]) (nu 1))) (va [98])],cn dP []] [pc cV [],pc cD []])
abbrev a6Z:af:=la [120] (cs (op [60] (va [110]) (nu 1)) [cn dP [],cn bI [va [120],ap (ap (va a2S) (op [45] (va [110]) (nu 1))) (va [120])]] [pc cV [],pc cD []])
abbrev aF1:af:=ap (va Zq) (la [121] (op [61] (va [120]) (va [121])))
abbrev aF0:af:=la [108] (cs (va [108]) [cn Ww [],cs (op [61] (va [97]) (va [107])) [cn Wv [va [118]],ap (ap (va a3Y) (va [107])) (va [116])] [pc cV [],pc cD []]] [pc dP [],pc bI [pc [44] [pv [97],pv [118]],pv [116]]])
abbrev o9:af:=la [108] (cs (va [108]) [cn [44] [cn dP [],cn dP []],cs (ap (ap (va gT) (va [112])) (va [116])) [cs (ap (va [112]) (va [104])) [cn [44] [cn bI [va [104],va [97]],va [98]],cn [44] [va [97],cn bI [va [104],va [98]]]] [pc cV [],pc cD []]] [pc [44] [pv [97],pv [98]]]] [pc dP [],pc bI [pv [104],pv [116]]])
abbrev cg:af:=la [108] (cs (va [108]) [cn bI [va [120],cn dP []],cs (op [60] (va [104]) (va [120])) [cn bI [va [104],ap (ap (va n6) (va [120])) (va [116])],cn bI [va [120],va [108]]] [pc cV [],pc cD []]] [pc dP [],pc bI [pv [104],pv [116]]])
abbrev rp:af:=ap (ap (ap (va gS) (va n6)) (cn dP [])) (va [108])
abbrev rq:af:=la [98] (cs (cn [44] [va [97],va [98]]) [va [98],va [97],cs (op [60] (va [121]) (va [120])) [cn bI [va [121],ap (ap (va nA) (va [97])) (va [115])],cn bI [va [120],ap (ap (va nA) (va [114])) (va [98])]] [pc cV [],pc cD []]] [pc [44] [pc dP [],pw],pc [44] [pw,pc dP []],pc [44] [pc bI [pv [120],pv [114]],pc bI [pv [121],pv [115]]]])
abbrev cq:af:=cs (va [108]) [cs (ap (va xB) (va [116])) [cn [44] [cn bI [va [120],va [97]],cn bI [va [121],va [98]]]] [pc [44] [pv [97],pv [98]]],cn [44] [va [108],cn dP []]] [pc bI [pv [120],pc bI [pv [121],pv [116]]],pw]
abbrev vH:af:=cs (va [108]) [cs (ap (va xB) (va [108])) [ap (ap (va nA) (ap (va iR) (va [97]))) (ap (va iR) (va [98]))] [pc [44] [pv [97],pv [98]]],va [108]] [pc bI [pv [120],pc bI [pv [121],pv [116]]],pw]
abbrev ch:af:=cs (va [108]) [cn dP [],cs (ap (ap (va gT) (la [120] (op [60] (va [120]) (va [104])))) (va [116])) [ap (ap (va qM) (ap (va iS) (va [97]))) (cn bI [va [104],ap (va iS) (va [98])])] [pc [44] [pv [97],pv [98]]]] [pc dP [],pc bI [pv [104],pv [116]]]
abbrev vK:af:=la [116] (cs (va [116]) [cn jI [cn kP [],va [120],cn kP []],cs (op [60] (va [120]) (va [121])) [cn jI [ap (ap (va gD) (va [120])) (va [108]),va [121],va [114]],cs (op [60] (va [121]) (va [120])) [cn jI [va [108],va [121],ap (ap (va gD) (va [120])) (va [114])],va [116]] [pc cV [],pc cD []]] [pc cV [],pc cD []]] [pc kP [],pc jI [pv [108],pv [121],pv [114]]])
abbrev aCn:af:=la [116] (cs (va [116]) [cn cD [],cs (op [60] (va [120]) (va [121])) [ap (ap (va xG) (va [120])) (va [108]),cs (op [60] (va [121]) (va [120])) [ap (ap (va xG) (va [120])) (va [114]),cn cV []] [pc cV [],pc cD []]] [pc cV [],pc cD []]] [pc kP [],pc jI [pv [108],pv [121],pv [114]]])
abbrev aLF:af:=cs (va [116]) [cn dP [],ap (ap (va qM) (ap (va jP) (va [108]))) (cn bI [va [121],ap (va jP) (va [114])])] [pc kP [],pc jI [pv [108],pv [121],pv [114]]]
abbrev aLG:af:=cs (va [116]) [nu 0,op [43] (op [43] (ap (va ug) (va [108])) (nu 1)) (ap (va ug) (va [114]))] [pc kP [],pc jI [pv [108],pv [121],pv [114]]]
abbrev aF6:af:=cs (va [116]) [nu 0,op [43] (nu 1) (ap (ap (va Zo) (ap (va eu) (va [108]))) (ap (va eu) (va [114])))] [pc kP [],pc jI [pv [108],pv [121],pv [114]]]
abbrev Wn:af:=ap (ap (ap (va pH) (la [116] (la [120] (ap (ap (va gD) (va [120])) (va [116]))))) (cn kP [])) (va [108])
abbrev aRI:af:=cs (va [105]) [cn dP [],cn bI [va [104],ap (va U') (va [116])]] [pc WH [],pc Wx [pv [104],pv [116]]]
abbrev aLv:af:=cs (va [108]) [cn WH [],cn Wx [va [104],ap (va y3) (va [116])]] [pc dP [],pc bI [pv [104],pv [116]]]
def xk:List gu:=[⟨nId,[120],bId⟩,
 ⟨aNL,[120],aLu⟩,
 ⟨aD5,[102],aCa⟩,
 ⟨aSK,[102],aRH⟩,
 ⟨aWK,[112],aVA⟩,
 ⟨aWO,[112],aVK⟩,
 ⟨aWN,[98],aVF⟩,
 ⟨aSJ,[97],aRF⟩,
 ⟨aHp,[97],aFX⟩,
 ⟨Zr,[110],aVx⟩,
 ⟨aWM,[97],aVE⟩,
 ⟨Zo,[97],aVD⟩,
 ⟨Zp,[97],aVB⟩,
 ⟨y4,[97],aLw⟩,
 ⟨aWL,[102],aVC⟩,
 ⟨aHq,[112],aFY⟩,
 ⟨gS,[102],bz⟩,
 ⟨pH,[102],rm⟩,
 ⟨qM,[97],a20⟩,
 ⟨aEa,[108],aCm⟩,
 ⟨aHo,[108],aFW⟩,
 ⟨aHr,[108],aFZ⟩,
 ⟨aWP,[108],aVL⟩,
 ⟨aD8,[108],aCb⟩,
 ⟨aWJ,[112],aVy⟩,
 ⟨Zq,[112],aVz⟩,
 ⟨U_,[110],aRO⟩,
 ⟨U8,[110],aRG⟩,
 ⟨Zn,[110],aVG⟩,
 ⟨Zm,[97],aVM⟩,
 ⟨zQ,[108],aLH⟩,
 ⟨y5,[97],aLE⟩,
 ⟨a2S,[110],a6Z⟩,
 ⟨aHs,[120],aF1⟩,
 ⟨a3Y,[107],aF0⟩,
 ⟨gT,[112],o9⟩,
 ⟨n6,[120],cg⟩,
 ⟨lM,[108],rp⟩,
 ⟨nA,[97],rq⟩,
 ⟨xB,[108],cq⟩,
 ⟨iR,[108],vH⟩,
 ⟨iS,[108],ch⟩,
 ⟨gD,[120],vK⟩,
 ⟨xG,[120],aCn⟩,
 ⟨jP,[116],aLF⟩,
 ⟨ug,[116],aLG⟩,
 ⟨eu,[116],aF6⟩,
 ⟨qN,[108],Wn⟩,
 ⟨U',[105],aRI⟩,
 ⟨y3,[108],aLv⟩]
def vL:List ax:=[⟨1,aKp,[Kx],[⟨dP,[]⟩,⟨bI,[.mk Kx [],.mk aKp [.mk Kx []]]⟩],[],[],[],[],lB⟩,
 ⟨1,aGo,[Kx],[⟨Ww,[]⟩,⟨Wv,[.mk Kx []]⟩],[],[],[],[],lB⟩,
 ⟨1,Wu,[Kx],[⟨kP,[]⟩,⟨jI,[.mk Wu [.mk Kx []],.mk Kx [],.mk Wu [.mk Kx []]]⟩],[],[],[],[],lB⟩,
 ⟨1,aKn,[],[⟨WH,[]⟩,⟨Wx,[.mk WC [],.mk aKn []]⟩],[],[],[],[],lB⟩]
def c7:List ax:=vL++xk.map mS
end Go.Proofs.YtoiocfngjchdiaaGreatDoor
