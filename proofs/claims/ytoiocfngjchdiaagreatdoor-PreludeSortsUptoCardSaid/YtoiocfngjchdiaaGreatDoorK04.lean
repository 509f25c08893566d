import Derived.Test.YtoiocfngjchdiaaGreatDoorK00
set_option linter.all false
set_option maxRecDepth 1000000
set_option maxHeartbeats 0
noncomputable section
namespace Go.CM
def sj:List (Nat×Nat×Nat×Bool):=[(2,25705,51,false),(5,500152823651,51,false),(3,7631718,52,false),(3,6581875,53,false),(3,7630702,54,false),(4,1752461154,56,false),(6,125779869722981,57,false),(3,7235949,58,false),(3,7889261,60,false),(6,110425311047777,61,false),(6,114849160783212,63,false),(6,125779768599917,64,false),(7,28555907813500274,67,false),(3,7561825,69,true),(3,6579047,70,true),(5,491328597872,71,true),(6,127961628831587,72,true),(3,7173491,73,true),(7,32760453145784944,74,true),(4,1701536116,75,true),(4,1886351972,76,true),(3,6845550,77,true),(3,7367034,78,true),(5,482805968501,79,true),(5,435526984050,80,true),(9,1871507244730247308658,81,true),(6,123649615949676,82,true),(6,128034677157481,83,true),(5,500136113001,84,true),(5,435527247213,85,true),(5,499984920691,86,true),(5,500136113005,84,true),(5,500136113009,84,true),(7,32776877352315252,87,true),(7,32199620761578868,88,true),(5,500152495220,89,true),(5,435845428084,90,true),(6,114849311188084,91,true),(4,1701147252,92,true),(4,1953720684,93,true),(5,495756604521,94,true)]
def Y3(p:Nat×Nat×Nat×Bool):V:=.aj [.str p.1 p.2.1,.fn (qn p.2.2.1) (match p.2.2.2 with|true=>[.agg []]|false=>[]) []]
theorem aMV:my lw 1000 (qn 26) [] (qn 8)=.ok (.aj (sj.map Y3)):=by kernel_rfl
end Go.CM
end
