import Derived.Test.YtdkkaldimefljaaGreatDoorK00
set_option linter.all false
set_option maxRecDepth 1000000
set_option maxHeartbeats 0
noncomputable section
namespace Go.CM
theorem ty_tree:runF fe26 1000 (qn 36) [.str 4 1701147252] (qn 8)=.ok (.tup [.tup [.str 2 15917,.tup [.str 4 1953720652,.tup [.str 3 7630409]],.tup [.str 4 1701147220,.tup [.str 3 7630409]]],.bool true]):=by kernel_rfl
theorem pl_tree:runF fe26 1000 (qn 41) [.str 4 1701147252] (qn 8)=.ok (.bool true):=by kernel_rfl
theorem ty_tlist:runF fe26 1000 (qn 36) [.str 5 500152495220] (qn 8)=.ok (.tup [.tup [.str 2 15917,.tup [.str 4 1701147220,.tup [.str 2 24871]],.tup [.str 4 1953720652,.tup [.str 2 24871]]],.bool true]):=by kernel_rfl
theorem pl_tlist:runF fe26 1000 (qn 41) [.str 5 500152495220] (qn 8)=.ok (.bool true):=by kernel_rfl
theorem ty_tmember:runF fe26 1000 (qn 36) [.str 7 32199620761578868] (qn 8)=.ok (.tup [.tup [.str 2 15917,.tup [.str 3 7630409],.tup [.str 2 15917,.tup [.str 4 1701147220,.tup [.str 3 7630409]],.tup [.str 4 1819242306]]],.bool true]):=by kernel_rfl
theorem pl_tmember:runF fe26 1000 (qn 41) [.str 7 32199620761578868] (qn 8)=.ok (.bool true):=by kernel_rfl
theorem ty_tsize:runF fe26 1000 (qn 36) [.str 5 435845428084] (qn 8)=.ok (.tup [.tup [.str 2 15917,.tup [.str 4 1701147220,.tup [.str 2 24871]],.tup [.str 3 7630409]],.bool true]):=by kernel_rfl
theorem pl_tsize:runF fe26 1000 (qn 41) [.str 5 435845428084] (qn 8)=.ok (.bool true):=by kernel_rfl
theorem ty_length:runF fe26 1000 (qn 36) [.str 6 114849160783212] (qn 8)=.ok (.tup [.tup [.str 2 15917,.tup [.str 4 1953720652,.tup [.str 2 24871]],.tup [.str 3 7630409]],.bool true]):=by kernel_rfl
theorem pl_length:runF fe26 1000 (qn 41) [.str 6 114849160783212] (qn 8)=.ok (.bool true):=by kernel_rfl
theorem ty_tinsert:runF fe26 1000 (qn 36) [.str 7 32776877352315252] (qn 8)=.ok (.tup [.tup [.str 2 15917,.tup [.str 3 7630409],.tup [.str 2 15917,.tup [.str 4 1701147220,.tup [.str 3 7630409]],.tup [.str 4 1701147220,.tup [.str 3 7630409]]]],.bool true]):=by kernel_rfl
theorem pl_tinsert:runF fe26 1000 (qn 41) [.str 7 32776877352315252] (qn 8)=.ok (.bool true):=by kernel_rfl
theorem ty_tdepth:runF fe26 1000 (qn 36) [.str 6 114849311188084] (qn 8)=.ok (.tup [.tup [.str 2 15917,.tup [.str 4 1701147220,.tup [.str 2 24871]],.tup [.str 3 7630409]],.bool true]):=by kernel_rfl
theorem pl_tdepth:runF fe26 1000 (qn 41) [.str 6 114849311188084] (qn 8)=.ok (.bool true):=by kernel_rfl
theorem ty_items:runF fe26 1000 (qn 36) [.str 5 495756604521] (qn 8)=.ok (.tup [.tup [.str 2 15917,.tup [.str 4 1953720652,.tup [.str 3 7630409]],.tup [.str 4 1937010249]],.bool true]):=by kernel_rfl
theorem pl_items:runF fe26 1000 (qn 41) [.str 5 495756604521] (qn 8)=.ok (.bool true):=by kernel_rfl
theorem ty_list:runF fe26 1000 (qn 36) [.str 4 1953720684] (qn 8)=.ok (.tup [.tup [.str 2 15917,.tup [.str 4 1937010249],.tup [.str 4 1953720652,.tup [.str 3 7630409]]],.bool true]):=by kernel_rfl
theorem pl_list:runF fe26 1000 (qn 41) [.str 4 1953720684] (qn 8)=.ok (.bool true):=by kernel_rfl
theorem ty_append:runF fe26 1000 (qn 36) [.str 6 110425311047777] (qn 8)=.ok (.tup [.tup [.str 2 15917,.tup [.str 4 1953720652,.tup [.str 2 24871]],.tup [.str 2 15917,.tup [.str 4 1953720652,.tup [.str 2 24871]],.tup [.str 4 1953720652,.tup [.str 2 24871]]]],.bool true]):=by kernel_rfl
theorem pl_append:runF fe26 1000 (qn 41) [.str 6 110425311047777] (qn 8)=.ok (.bool true):=by kernel_rfl
theorem ty_reverse:runF fe26 1000 (qn 36) [.str 7 28555907813500274] (qn 8)=.ok (.tup [.tup [.str 2 15917,.tup [.str 4 1953720652,.tup [.str 2 24871]],.tup [.str 4 1953720652,.tup [.str 2 24871]]],.bool true]):=by kernel_rfl
theorem pl_reverse:runF fe26 1000 (qn 41) [.str 7 28555907813500274] (qn 8)=.ok (.bool true):=by kernel_rfl
theorem ty_take:runF fe26 1000 (qn 36) [.str 4 1701536116] (qn 8)=.ok (.tup [.tup [.str 2 15917,.tup [.str 3 7630409],.tup [.str 2 15917,.tup [.str 4 1953720652,.tup [.str 2 24871]],.tup [.str 4 1953720652,.tup [.str 2 24871]]]],.bool true]):=by kernel_rfl
theorem pl_take:runF fe26 1000 (qn 41) [.str 4 1701536116] (qn 8)=.ok (.bool true):=by kernel_rfl
theorem ty_drop:runF fe26 1000 (qn 36) [.str 4 1886351972] (qn 8)=.ok (.tup [.tup [.str 2 15917,.tup [.str 3 7630409],.tup [.str 2 15917,.tup [.str 4 1953720652,.tup [.str 2 24871]],.tup [.str 4 1953720652,.tup [.str 2 24871]]]],.bool true]):=by kernel_rfl
theorem pl_drop:runF fe26 1000 (qn 41) [.str 4 1886351972] (qn 8)=.ok (.bool true):=by kernel_rfl
theorem ty_concat:runF fe26 1000 (qn 36) [.str 6 127961628831587] (qn 8)=.ok (.tup [.tup [.str 2 15917,.tup [.str 4 1953720652,.tup [.str 4 1953720652,.tup [.str 2 24871]]],.tup [.str 4 1953720652,.tup [.str 2 24871]]],.bool true]):=by kernel_rfl
theorem pl_concat:runF fe26 1000 (qn 41) [.str 6 127961628831587] (qn 8)=.ok (.bool true):=by kernel_rfl
theorem ty_zip:runF fe26 1000 (qn 36) [.str 3 7367034] (qn 8)=.ok (.tup [.tup [.str 2 15917,.tup [.str 4 1953720652,.tup [.str 2 24871]],.tup [.str 2 15917,.tup [.str 4 1953720652,.tup [.str 2 25127]],.tup [.str 4 1953720652,.tup [.str 1 44,.tup [.str 2 24871],.tup [.str 2 25127]]]]],.bool true]):=by kernel_rfl
theorem pl_zip:runF fe26 1000 (qn 41) [.str 3 7367034] (qn 8)=.ok (.bool true):=by kernel_rfl
theorem ty_unzip:runF fe26 1000 (qn 36) [.str 5 482805968501] (qn 8)=.ok (.tup [.tup [.str 2 15917,.tup [.str 4 1953720652,.tup [.str 1 44,.tup [.str 2 24871],.tup [.str 2 25127]]],.tup [.str 1 44,.tup [.str 4 1953720652,.tup [.str 2 24871]],.tup [.str 4 1953720652,.tup [.str 2 25127]]]],.bool true]):=by kernel_rfl
theorem pl_unzip:runF fe26 1000 (qn 41) [.str 5 482805968501] (qn 8)=.ok (.bool true):=by kernel_rfl
def fnTab:List (Nat×Nat×Nat×Bool):=[(2,25705,46,false),(5,500152823651,46,false),(3,7631718,47,false),(3,6581875,48,false),(3,7630702,49,false),(4,1752461154,51,false),(6,125779869722981,52,false),(3,7235949,53,false),(3,7889261,55,false),(6,110425311047777,56,false),(6,114849160783212,58,false),(6,125779768599917,59,false),(7,28555907813500274,62,false),(3,7561825,64,true),(3,6579047,65,true),(5,491328597872,66,true),(6,127961628831587,67,true),(3,7173491,68,true),(7,32760453145784944,69,true),(4,1701536116,70,true),(4,1886351972,71,true),(3,6845550,72,true),(3,7367034,73,true),(5,482805968501,74,true),(5,435526984050,75,true),(9,1871507244730247308658,76,true),(6,123649615949676,77,true),(6,128034677157481,78,true),(5,500136113001,79,true),(5,435527247213,80,true),(5,499984920691,81,true),(5,500136113005,79,true),(5,500136113009,79,true),(7,32776877352315252,82,true),(7,32199620761578868,83,true),(5,500152495220,84,true),(5,435845428084,85,true),(6,114849311188084,86,true),(4,1701147252,87,true),(4,1953720684,88,true),(5,495756604521,89,true)]
def fnV(p:Nat×Nat×Nat×Bool):V:=.tup [.str p.1 p.2.1,.fn (qn p.2.2.1) (match p.2.2.2 with|true=>[.agg []]|false=>[]) []]
theorem aLu:runF fe26 1000 (qn 28) [] (qn 8)=.ok (.tup (fnTab.map fnV)):=by kernel_rfl
end Go.CM
end
