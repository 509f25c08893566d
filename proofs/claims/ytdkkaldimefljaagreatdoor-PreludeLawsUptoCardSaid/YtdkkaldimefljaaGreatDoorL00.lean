import Derived.WalkSpells
import Derived.Shelf.Small.Strs
import Derived.Shelf.Strconv.Itoa3
import Derived.Shelf.Strconv.AtoiAll
import Derived.Shelf.Strings.Shaped
import Derived.Shelf.Strings.Prefix
import Derived.Shelf.Strings.Replace
import Derived.Lib.ItoaLen
import Derived.Lib.AppendIntMem
import Derived.Test.YtdkkaldimefljaaGreatDoorT00
set_option linter.all false
set_option maxRecDepth 100000
set_option maxHeartbeats 4000000
namespace Go.Proofs.YtdkkaldimefljaaGreatDoor
open Go.AM
attribute [go_sem] lT gG nK aD dJ gP nG hQ GL mv DI lJ AM.asInt AM.asBool dE pU iG lH aQ bQ dM eU jQ fF bG A9 RS.look RS.put RS.putO bL tlook commit kS hJ l8 iD jV dK noRefTo aL jI iF dR isNilIface cO Nat.beq Nat.ble Nat.blt cond_true cond_false Bool.and_true Bool.true_and Bool.and_self Bool.not_true Bool.not_false Bool.or_true Bool.or_false Bool.false_or Bool.true_or Bool.and_false Bool.false_and List.all_nil List.all_cons List.contains List.elem Option.bind_some Option.map_some Option.getD_some aOn aOq aJA aOu aD3 aJB aJD aJF aJE aOr aOs aOw List.take_succ_cons List.take_zero List.drop_zero List.drop_succ_cons Nat.zero_add Cell.get Cell.lok AM.lok lokF uD partOf List.map_nil List.map_cons List.length_cons List.length_nil List.getElem?_cons_zero List.getElem?_cons_succ List.nil_append List.cons_append List.append_nil List.getElem?_toArray List.toList_toArray Option.bind_none Option.map_none aJT aJU aJV aFe aJX setCells List.take_append_drop List.drop_nil List.take_nil List.isEmpty_nil List.isEmpty_cons aNN aJr aNO aNQ UQ aNS aNU Yj Tryz.underlying0 Rv ag3 ZV ZW Tryz.underlying3 Tryz.underlying4 Tryz.underlying5 Ze ag9 Tryz.underlying9 aPz Tryz.underlying318 Tryz.underlying331 Tryz.underlying339 aHm aHl aNT aNV aPw aNt aP9 aP5 aN9 Tryz.underlying185 aPf aPx aNu Tryz.underlying275 aPA aNv Tryz.underlying319 aPB aNw aPr Tryz.underlying320 Tryz.underlying322 aPC aQa aP7 aOa Tryz.underlying333 aPh Tryz.underlying343 aHn aHo aHj aHi Tryz.underlying20 aPD aNx aP8 Tryz.underlying42 aPy aP6 Tryz.underlying277 aPg aNR Tryz.underlying341 aNM aNP aNL aHp mR Tryz.underlying1 aPv aNs aPq aP4 Tryz.underlying176 Tryz.underlying305 aNK Tryz.underlying324 aNG Tryz.underlying278 aHk
attribute [go_sem_proc] Nat.reduceAdd reduceIte
theorem names(f:Nat)(F:Func)(h:Tryz.prog.funcs[f]?=some F)(_:F.body.isSome=true):F.name≠ "runtime.NumGoroutine":=by
 have CN:Tryz.prog.funcs.all (λF=>!(F.name== "runtime.NumGoroutine"))=true:=by kernel_rfl
 have:=Gs.1 CN F (Gb h)
 intro e;rw[e] at this;simp at this
theorem Yg{B0:Nat}{pr:dY}(h:∀f args res,pr f args=some (some res)->(∃F,Tryz.prog.funcs[f]?=some F/\F.body.isSome=true)/\∀sto w Z J ow vs,dW ans B0 w Z J ow args vs sto->∀c cs,eI Tryz.prog ans B0 w Z J ow sto c cs (lone (Frame.enter Tryz.prog f vs .normal) (c::cs) w) res sto):Env Tryz.prog ans B0 pr :=
 ⟨h,names,λ_ hc=>aAt (by kernel_rfl) hc⟩
def pr0:dY:=λ_ _=>none
theorem aQ9(B0:Nat):Env Tryz.prog ans B0 pr0:=Yg λf args res h=>by cases h
end Go.Proofs.YtdkkaldimefljaaGreatDoor
namespace Go.Proofs
open Go.Shelf
def Tryz.lays137_ren:Go.Shelf.Ren:=⟨fun|137=>294|217=>300|266=>307|n=>n,fun|9=>9|5=>5|3=>3|n=>n,fun|n=>n⟩
theorem Tryz.lays137:Go.Proofs.Lays.n137 Tryz.prog Tryz.lays137_ren:={
 mixed:=by kernel_rfl
 f137:=Tryz.func294.trans (Ar some (by kernel_rfl))
 f217:=Tryz.func300.trans (Ar some (by kernel_rfl))
 f266:=Tryz.func307.trans (Ar some (by kernel_rfl))
 t3:=Tryz.underlying3
 a3:=Tryz.isAgg3
 z3:=Tryz.sizeOf3
 v3:=Tryz.zeroValue3
 t5:=Tryz.underlying5
 a5:=Tryz.isAgg5
 z5:=Tryz.sizeOf5
 v5:=Tryz.zeroValue5
 t9:=Tryz.underlying9
 a9:=Tryz.isAgg9
 z9:=Tryz.sizeOf9
 v9:=Tryz.zeroValue9 }
open Go.RowKit in
theorem Tryz.strings_IndexByte(s:ByteArray)(c:Int)(w:World) :
  Calls Tryz.prog 294 #[.string s,.int .u8 c] w λe w'=>e=.returned (.int .i64 (Lib.indexByte s.data.toList c.toNat.toUInt8))/\w'=w:=Any.strings_IndexByte Tryz.lays137 s c w
def Tryz.laysM171_ren:Go.Shelf.Ren:=⟨fun|171=>317|243=>329|246=>338|283=>342|284=>343|285=>344|286=>345|129=>347|317=>346|318=>348|319=>349|320=>350|337=>351|338=>352|n=>n,fun|3=>3|9=>9|2=>2|4=>4|171=>386|0=>0|53=>165|37=>354|5=>5|173=>389|212=>392|51=>280|20=>20|213=>393|46=>227|232=>396|233=>397|n=>n,fun|17=>5|18=>6|19=>7|n=>n⟩
theorem Tryz.laysM171:Go.Proofs.LaysM.n171 Tryz.prog Tryz.laysM171_ren:={
 mixed:=by kernel_rfl
 f129:=Tryz.func347.trans (Ar some (by kernel_rfl))
 f171:=Tryz.func317.trans (Ar some (by kernel_rfl))
 f243:=Tryz.func329.trans (Ar some (by kernel_rfl))
 f246:=Tryz.func338.trans (Ar some (by kernel_rfl))
 f283:=Tryz.func342.trans (Ar some (by kernel_rfl))
 f284:=Tryz.func343.trans (Ar some (by kernel_rfl))
 f285:=Tryz.func344.trans (Ar some (by kernel_rfl))
 f286:=Tryz.func345.trans (Ar some (by kernel_rfl))
 f317:=Tryz.func346.trans (Ar some (by kernel_rfl))
 f318:=Tryz.func348.trans (Ar some (by kernel_rfl))
 f319:=Tryz.func349.trans (Ar some (by kernel_rfl))
 f320:=Tryz.func350.trans (Ar some (by kernel_rfl))
 f337:=Tryz.func351.trans (Ar some (by kernel_rfl))
 f338:=Tryz.func352.trans (Ar some (by kernel_rfl))
 t0:=Tryz.underlying0
 a0:=Tryz.isAgg0
 z0:=Tryz.sizeOf0
 v0:=Tryz.zeroValue0
 t2:=Tryz.underlying2
 a2:=Tryz.isAgg2
 z2:=Tryz.sizeOf2
 v2:=Tryz.zeroValue2
 t3:=Tryz.underlying3
 a3:=Tryz.isAgg3
 z3:=Tryz.sizeOf3
 v3:=Tryz.zeroValue3
 t4:=Tryz.underlying4
 a4:=Tryz.isAgg4
 z4:=Tryz.sizeOf4
 v4:=Tryz.zeroValue4
 t5:=Tryz.underlying5
 a5:=Tryz.isAgg5
 z5:=Tryz.sizeOf5
 v5:=Tryz.zeroValue5
 t9:=Tryz.underlying9
 a9:=Tryz.isAgg9
 z9:=Tryz.sizeOf9
 v9:=Tryz.zeroValue9
 t20:=Tryz.underlying20
 a20:=Tryz.isAgg20
 z20:=Tryz.sizeOf20
 v20:=Tryz.zeroValue20
 t37:=Tryz.underlying354
 a37:=Tryz.isAgg354
 z37:=Tryz.sizeOf354
 v37:=Tryz.zeroValue354
 t46:=Tryz.underlying227
 a46:=Tryz.isAgg227
 z46:=Tryz.sizeOf227
 v46:=Tryz.zeroValue227
 t51:=Tryz.underlying280
 a51:=Tryz.isAgg280
 z51:=Tryz.sizeOf280
 v51:=Tryz.zeroValue280
 t53:=Tryz.underlying165
 a53:=Tryz.isAgg165
 z53:=Tryz.sizeOf165
 v53:=Tryz.zeroValue165
 t171:=Tryz.underlying386
 a171:=Tryz.isAgg386
 z171:=Tryz.sizeOf386
 v171:=Tryz.zeroValue386
 t173:=Tryz.underlying389
 a173:=Tryz.isAgg389
 z173:=Tryz.sizeOf389
 v173:=Tryz.zeroValue389
 t212:=Tryz.underlying392
 a212:=Tryz.isAgg392
 z212:=Tryz.sizeOf392
 v212:=Tryz.zeroValue392
 t213:=Tryz.underlying393
 a213:=Tryz.isAgg393
 z213:=Tryz.sizeOf393
 t232:=Tryz.underlying396
 a232:=Tryz.isAgg396
 z232:=Tryz.sizeOf396
 v232:=Tryz.zeroValue396
 t233:=Tryz.underlying397
 a233:=Tryz.isAgg397
 z233:=Tryz.sizeOf397
 v233:=Tryz.zeroValue397
 g17:=by kernel_rfl
 g18:=by kernel_rfl
 g19:=by kernel_rfl
 i0:=by kernel_rfl
 i2:=by kernel_rfl
 i3:=by kernel_rfl
 i4:=by kernel_rfl
 i5:=by kernel_rfl
 i9:=by kernel_rfl
 i20:=by kernel_rfl
 i37:=by kernel_rfl
 i46:=by kernel_rfl
 i51:=by kernel_rfl
 i53:=by kernel_rfl
 i171:=by kernel_rfl
 i173:=by kernel_rfl
 i212:=by kernel_rfl
 i232:=by kernel_rfl
 i233:=by kernel_rfl
 m17:=by kernel_rfl
 m18:=by kernel_rfl
 m19:=by kernel_rfl }
open Go.RowKit Go.Sort Go.Lib in
theorem Tryz.strconv_Itoa (n:Int) (h0:-9223372036854775808<=n) (h1:n<=9223372036854775807) (w:World) (VU:Lib.TabIs Tryz.prog w "internal/strconv.uint64pow10" .u64 Lib.pow10Tab) :
  Calls Tryz.prog 317 #[.int .i64 n] w λe w'=>e=.returned (.string ⟨(Lib.itoa n).toArray⟩)/\∃k os,w'=grow (w.drewN k) os:=Any.strconv_Itoa Tryz.laysM171 n h0 h1 w VU
def Tryz.laysC172_ren:Go.Shelf.Ren:=⟨fun|172=>304|244=>309|245=>310|247=>318|279=>319|280=>320|281=>321|282=>322|287=>330|316=>331|171=>317|205=>332|321=>339|322=>340|243=>329|246=>338|283=>342|284=>343|285=>344|286=>345|129=>347|317=>346|318=>348|319=>349|320=>350|337=>351|338=>352|n=>n,fun|9=>9|3=>3|75=>345|76=>346|4=>4|5=>5|167=>360|37=>354|0=>0|85=>361|2=>2|168=>363|53=>165|175=>367|46=>227|210=>371|127=>366|145=>384|143=>382|21=>21|171=>386|173=>389|212=>392|51=>280|20=>20|213=>393|232=>396|233=>397|80=>233|n=>n,fun|15=>1|16=>2|17=>5|18=>6|19=>7|n=>n⟩
theorem Tryz.laysC172:Go.Proofs.LaysC.n172 Tryz.prog Tryz.laysC172_ren:={
 mixed:=by kernel_rfl
 f129:=Tryz.func347.trans (Ar some (by kernel_rfl))
 f171:=Tryz.func317.trans (Ar some (by kernel_rfl))
 f172:=Tryz.func304.trans (Ar some (by kernel_rfl))
 f205:=Tryz.func332.trans (Ar some (by kernel_rfl))
 f243:=Tryz.func329.trans (Ar some (by kernel_rfl))
 f244:=Tryz.func309.trans (Ar some (by kernel_rfl))
 f245:=Tryz.func310.trans (Ar some (by kernel_rfl))
 f246:=Tryz.func338.trans (Ar some (by kernel_rfl))
 f247:=Tryz.func318.trans (Ar some (by kernel_rfl))
 f279:=Tryz.func319.trans (Ar some (by kernel_rfl))
 f280:=Tryz.func320.trans (Ar some (by kernel_rfl))
 f281:=Tryz.func321.trans (Ar some (by kernel_rfl))
 f282:=Tryz.func322.trans (Ar some (by kernel_rfl))
 f283:=Tryz.func342.trans (Ar some (by kernel_rfl))
 f284:=Tryz.func343.trans (Ar some (by kernel_rfl))
 f285:=Tryz.func344.trans (Ar some (by kernel_rfl))
 f286:=Tryz.func345.trans (Ar some (by kernel_rfl))
 f287:=Tryz.func330.trans (Ar some (by kernel_rfl))
 f316:=Tryz.func331.trans (Ar some (by kernel_rfl))
 f317:=Tryz.func346.trans (Ar some (by kernel_rfl))
 f318:=Tryz.func348.trans (Ar some (by kernel_rfl))
 f319:=Tryz.func349.trans (Ar some (by kernel_rfl))
 f320:=Tryz.func350.trans (Ar some (by kernel_rfl))
 f321:=Tryz.func339.trans (Ar some (by kernel_rfl))
 f322:=Tryz.func340.trans (Ar some (by kernel_rfl))
 f337:=Tryz.func351.trans (Ar some (by kernel_rfl))
 f338:=Tryz.func352.trans (Ar some (by kernel_rfl))
 t0:=Tryz.underlying0
 a0:=Tryz.isAgg0
 z0:=Tryz.sizeOf0
 v0:=Tryz.zeroValue0
 t2:=Tryz.underlying2
 a2:=Tryz.isAgg2
 z2:=Tryz.sizeOf2
 v2:=Tryz.zeroValue2
 t3:=Tryz.underlying3
 a3:=Tryz.isAgg3
 z3:=Tryz.sizeOf3
 v3:=Tryz.zeroValue3
 t4:=Tryz.underlying4
 a4:=Tryz.isAgg4
 z4:=Tryz.sizeOf4
 v4:=Tryz.zeroValue4
 t5:=Tryz.underlying5
 a5:=Tryz.isAgg5
 z5:=Tryz.sizeOf5
 v5:=Tryz.zeroValue5
 t9:=Tryz.underlying9
 a9:=Tryz.isAgg9
 z9:=Tryz.sizeOf9
 v9:=Tryz.zeroValue9
 t20:=Tryz.underlying20
 a20:=Tryz.isAgg20
 z20:=Tryz.sizeOf20
 v20:=Tryz.zeroValue20
 t21:=Tryz.underlying21
 a21:=Tryz.isAgg21
 z21:=Tryz.sizeOf21
 v21:=Tryz.zeroValue21
 t37:=Tryz.underlying354
 a37:=Tryz.isAgg354
 z37:=Tryz.sizeOf354
 v37:=Tryz.zeroValue354
 t46:=Tryz.underlying227
 a46:=Tryz.isAgg227
 z46:=Tryz.sizeOf227
 v46:=Tryz.zeroValue227
 t51:=Tryz.underlying280
 a51:=Tryz.isAgg280
 z51:=Tryz.sizeOf280
 v51:=Tryz.zeroValue280
 t53:=Tryz.underlying165
 a53:=Tryz.isAgg165
 z53:=Tryz.sizeOf165
 v53:=Tryz.zeroValue165
 t75:=Tryz.underlying345
 a75:=Tryz.isAgg345
 z75:=Tryz.sizeOf345
 v75:=Tryz.zeroValue345
 t76:=Tryz.underlying346
 a76:=Tryz.isAgg346
 z76:=Tryz.sizeOf346
 v76:=Tryz.zeroValue346
 t85:=Tryz.underlying361
 a85:=Tryz.isAgg361
 z85:=Tryz.sizeOf361
 v85:=Tryz.zeroValue361
 t127:=Tryz.underlying366
 a127:=Tryz.isAgg366
 z127:=Tryz.sizeOf366
 v127:=Tryz.zeroValue366
 t143:=Tryz.underlying382
 a143:=Tryz.isAgg382
 z143:=Tryz.sizeOf382
 v143:=Tryz.zeroValue382
 t145:=Tryz.underlying384
 a145:=Tryz.isAgg384
 z145:=Tryz.sizeOf384
 v145:=Tryz.zeroValue384
 t167:=Tryz.underlying360
 a167:=Tryz.isAgg360
 z167:=Tryz.sizeOf360
 v167:=Tryz.zeroValue360
 t168:=Tryz.underlying363
 a168:=Tryz.isAgg363
 z168:=Tryz.sizeOf363
 v168:=Tryz.zeroValue363
 t171:=Tryz.underlying386
 a171:=Tryz.isAgg386
 z171:=Tryz.sizeOf386
 v171:=Tryz.zeroValue386
 t173:=Tryz.underlying389
 a173:=Tryz.isAgg389
 z173:=Tryz.sizeOf389
 v173:=Tryz.zeroValue389
 t175:=Tryz.underlying367
 a175:=Tryz.isAgg367
 z175:=Tryz.sizeOf367
 v175:=Tryz.zeroValue367
 t210:=Tryz.underlying371
 a210:=Tryz.isAgg371
 z210:=Tryz.sizeOf371
 v210:=Tryz.zeroValue371
 t212:=Tryz.underlying392
 a212:=Tryz.isAgg392
 z212:=Tryz.sizeOf392
 v212:=Tryz.zeroValue392
 t213:=Tryz.underlying393
 a213:=Tryz.isAgg393
 z213:=Tryz.sizeOf393
 t232:=Tryz.underlying396
 a232:=Tryz.isAgg396
 z232:=Tryz.sizeOf396
 v232:=Tryz.zeroValue396
 t233:=Tryz.underlying397
 a233:=Tryz.isAgg397
 z233:=Tryz.sizeOf397
 v233:=Tryz.zeroValue397
 g15:=by kernel_rfl
 g16:=by kernel_rfl
 g17:=by kernel_rfl
 g18:=by kernel_rfl
 g19:=by kernel_rfl
 t80:=Tryz.underlying233
 a80:=Tryz.isAgg233
 z80:=Tryz.sizeOf233
 v80:=Tryz.zeroValue233
 i0:=by kernel_rfl
 i2:=by kernel_rfl
 i3:=by kernel_rfl
 i4:=by kernel_rfl
 i5:=by kernel_rfl
 i9:=by kernel_rfl
 i20:=by kernel_rfl
 i21:=by kernel_rfl
 i37:=by kernel_rfl
 i46:=by kernel_rfl
 i51:=by kernel_rfl
 i53:=by kernel_rfl
 i75:=by kernel_rfl
 i76:=by kernel_rfl
 i80:=by kernel_rfl
 i85:=by kernel_rfl
 i127:=by kernel_rfl
 i143:=by kernel_rfl
 i145:=by kernel_rfl
 i167:=by kernel_rfl
 i168:=by kernel_rfl
 i171:=by kernel_rfl
 i173:=by kernel_rfl
 i175:=by kernel_rfl
 i210:=by kernel_rfl
 i212:=by kernel_rfl
 i232:=by kernel_rfl
 i233:=by kernel_rfl
 m15:=by kernel_rfl
 m16:=by kernel_rfl
 m17:=by kernel_rfl
 m18:=by kernel_rfl
 m19:=by kernel_rfl
 c0:=by kernel_rfl
 c2:=by kernel_rfl
 c3:=by kernel_rfl
 c4:=by kernel_rfl
 c5:=by kernel_rfl
 c9:=by kernel_rfl
 c20:=by kernel_rfl
 c21:=by kernel_rfl
 c37:=by kernel_rfl
 c46:=by kernel_rfl
 c51:=by kernel_rfl
 c53:=by kernel_rfl
 c75:=by kernel_rfl
 c76:=by kernel_rfl
 c80:=by kernel_rfl
 c85:=by kernel_rfl
 c127:=by kernel_rfl
 c143:=by kernel_rfl
 c145:=by kernel_rfl
 c167:=by kernel_rfl
 c168:=by kernel_rfl
 c171:=by kernel_rfl
 c173:=by kernel_rfl
 c175:=by kernel_rfl
 c210:=by kernel_rfl
 c212:=by kernel_rfl
 c213:=by kernel_rfl
 c232:=by kernel_rfl
 c233:=by kernel_rfl }
open Go.RowKit in
theorem Tryz.strconv_Atoi_ok(s:ByteArray)(NC:s.size<=9223372036854775806)(v:Int)(h:Lib.atoiAll s.data.toList=.ok v)(w:World) :
  Calls Tryz.prog 304 #[.string s] w λe w'=>e=.returned (.tuple #[.int .i64 v,.nilIface])/\(w'=w\/∃t,w'=Lib.bytesWorld w 5 t):=Any.strconv_Atoi_ok Tryz.laysC172 s NC v h w
open Go.RowKit in
theorem Tryz.strconv_Atoi_range(s:ByteArray)(Vp:s.size<=281474976710656)(h:Lib.atoiAll s.data.toList=.range)(ev:Value)(w:World)(hv:w.cell? ⟨2,0,none⟩=some ev)(Ip:ev=.nilIface\/∃te pe,ev=.iface te pe) :
  Calls Tryz.prog 304 #[.string s] w λe w'=>∃N,e=.returned (.tuple #[.int .i64 (Lib.atoiSat s.data.toList),.iface 363 (.pointer (some ⟨N,0,none⟩))])/\w.heap.size<=N/\w'.heap[N]?=some (.cells #[.string ⟨#[65,116,111,105]⟩,.string s,ev] 371 (0,0))/\Below w.heap.size w w':=Any.strconv_Atoi_range Tryz.laysC172 s Vp h ev w hv Ip
def Tryz.lays99_ren:Go.Shelf.Ren:=⟨fun|99=>298|206=>303|n=>n,fun|9=>9|4=>4|3=>3|n=>n,fun|n=>n⟩
theorem Tryz.lays99:Go.Proofs.Lays.n99 Tryz.prog Tryz.lays99_ren:={
 mixed:=by kernel_rfl
 f99:=Tryz.func298.trans (Ar some (by kernel_rfl))
 f206:=Tryz.func303.trans (Ar some (by kernel_rfl))
 t3:=Tryz.underlying3
 a3:=Tryz.isAgg3
 z3:=Tryz.sizeOf3
 v3:=Tryz.zeroValue3
 t4:=Tryz.underlying4
 a4:=Tryz.isAgg4
 z4:=Tryz.sizeOf4
 v4:=Tryz.zeroValue4
 t9:=Tryz.underlying9
 a9:=Tryz.isAgg9
 z9:=Tryz.sizeOf9
 v9:=Tryz.zeroValue9 }
open Go.RowKit Go.Lib in
theorem Tryz.strings_HasPrefix(s p:ByteArray)(w:World) :
  Calls Tryz.prog 298 #[.string s,.string p] w λe w'=>e=.returned (.bool (Lib.hasPrefix s.data.toList p.data.toList))/\w'=w:=Any.strings_HasPrefix Tryz.lays99 s p w
def Tryz.lays154_ren:Go.Shelf.Ren:=⟨fun|154=>305|138=>311|165=>312|143=>313|166=>314|197=>315|169=>316|195=>323|218=>324|240=>325|241=>326|219=>327|260=>328|276=>333|277=>334|217=>300|225=>335|224=>336|267=>337|266=>307|314=>341|n=>n,fun|9=>9|3=>3|4=>4|72=>356|0=>0|76=>346|105=>358|21=>21|5=>5|70=>353|20=>20|37=>354|75=>345|127=>366|164=>373|46=>227|119=>376|139=>379|138=>378|146=>281|51=>280|80=>233|n=>n,fun|1=>0|3=>3|4=>4|n=>n⟩
theorem Tryz.lays154:Go.Proofs.Lays.n154 Tryz.prog Tryz.lays154_ren:={
 mixed:=by kernel_rfl
 f138:=Tryz.func311.trans (Ar some (by kernel_rfl))
 f143:=Tryz.func313.trans (Ar some (by kernel_rfl))
 f154:=Tryz.func305.trans (Ar some (by kernel_rfl))
 f165:=Tryz.func312.trans (Ar some (by kernel_rfl))
 f166:=Tryz.func314.trans (Ar some (by kernel_rfl))
 f169:=Tryz.func316.trans (Ar some (by kernel_rfl))
 f195:=Tryz.func323.trans (Ar some (by kernel_rfl))
 f197:=Tryz.func315.trans (Ar some (by kernel_rfl))
 f217:=Tryz.func300.trans (Ar some (by kernel_rfl))
 f218:=Tryz.func324.trans (Ar some (by kernel_rfl))
 f219:=Tryz.func327.trans (Ar some (by kernel_rfl))
 f224:=Tryz.func336.trans (Ar some (by kernel_rfl))
 f225:=Tryz.func335.trans (Ar some (by kernel_rfl))
 f240:=Tryz.func325.trans (Ar some (by kernel_rfl))
 f241:=Tryz.func326.trans (Ar some (by kernel_rfl))
 f260:=Tryz.func328.trans (Ar some (by kernel_rfl))
 f266:=Tryz.func307.trans (Ar some (by kernel_rfl))
 f267:=Tryz.func337.trans (Ar some (by kernel_rfl))
 f276:=Tryz.func333.trans (Ar some (by kernel_rfl))
 f277:=Tryz.func334.trans (Ar some (by kernel_rfl))
 f314:=Tryz.func341.trans (Ar some (by kernel_rfl))
 t0:=Tryz.underlying0
 a0:=Tryz.isAgg0
 z0:=Tryz.sizeOf0
 v0:=Tryz.zeroValue0
 t3:=Tryz.underlying3
 a3:=Tryz.isAgg3
 z3:=Tryz.sizeOf3
 v3:=Tryz.zeroValue3
 t4:=Tryz.underlying4
 a4:=Tryz.isAgg4
 z4:=Tryz.sizeOf4
 v4:=Tryz.zeroValue4
 t5:=Tryz.underlying5
 a5:=Tryz.isAgg5
 z5:=Tryz.sizeOf5
 v5:=Tryz.zeroValue5
 t9:=Tryz.underlying9
 a9:=Tryz.isAgg9
 z9:=Tryz.sizeOf9
 v9:=Tryz.zeroValue9
 t20:=Tryz.underlying20
 a20:=Tryz.isAgg20
 z20:=Tryz.sizeOf20
 v20:=Tryz.zeroValue20
 t21:=Tryz.underlying21
 a21:=Tryz.isAgg21
 z21:=Tryz.sizeOf21
 v21:=Tryz.zeroValue21
 t37:=Tryz.underlying354
 a37:=Tryz.isAgg354
 z37:=Tryz.sizeOf354
 v37:=Tryz.zeroValue354
 t46:=Tryz.underlying227
 a46:=Tryz.isAgg227
 z46:=Tryz.sizeOf227
 v46:=Tryz.zeroValue227
 t51:=Tryz.underlying280
 a51:=Tryz.isAgg280
 z51:=Tryz.sizeOf280
 v51:=Tryz.zeroValue280
 t70:=Tryz.underlying353
 a70:=Tryz.isAgg353
 z70:=Tryz.sizeOf353
 v70:=Tryz.zeroValue353
 t72:=Tryz.underlying356
 a72:=Tryz.isAgg356
 z72:=Tryz.sizeOf356
 v72:=Tryz.zeroValue356
 t75:=Tryz.underlying345
 a75:=Tryz.isAgg345
 z75:=Tryz.sizeOf345
 v75:=Tryz.zeroValue345
 t76:=Tryz.underlying346
 a76:=Tryz.isAgg346
 z76:=Tryz.sizeOf346
 v76:=Tryz.zeroValue346
 t105:=Tryz.underlying358
 a105:=Tryz.isAgg358
 z105:=Tryz.sizeOf358
 v105:=Tryz.zeroValue358
 t119:=Tryz.underlying376
 a119:=Tryz.isAgg376
 z119:=Tryz.sizeOf376
 t127:=Tryz.underlying366
 a127:=Tryz.isAgg366
 z127:=Tryz.sizeOf366
 v127:=Tryz.zeroValue366
 t138:=Tryz.underlying378
 a138:=Tryz.isAgg378
 z138:=Tryz.sizeOf378
 v138:=Tryz.zeroValue378
 t139:=Tryz.underlying379
 a139:=Tryz.isAgg379
 z139:=Tryz.sizeOf379
 v139:=Tryz.zeroValue379
 t146:=Tryz.underlying281
 a146:=Tryz.isAgg281
 z146:=Tryz.sizeOf281
 v146:=Tryz.zeroValue281
 t164:=Tryz.underlying373
 a164:=Tryz.isAgg373
 z164:=Tryz.sizeOf373
 v164:=Tryz.zeroValue373
 g1:=by kernel_rfl
 g3:=by kernel_rfl
 g4:=by kernel_rfl }
theorem Tryz.Builder_Extra_154:Builder.Extra Tryz.prog Tryz.lays154_ren:={
 sizeBuilder:=by kernel_rfl
 liesBuilder:=by kernel_rfl
 t5:=Tryz.underlying5
 a5:=Tryz.isAgg5
 z5:=Tryz.sizeOf5
 v5:=Tryz.zeroValue5
 infoByte:=by kernel_rfl
 cellsByte:=by kernel_rfl
 sizeByte:=by kernel_rfl
 neB5:=by decide }
open Go.RowKit Go.Lib in
theorem Tryz.strings_Replace(s old new:ByteArray)(n:Int)(m:Int)(w:World)(hs:s.size<4294967281)(hm:w.cell? ⟨0,0,none⟩=some (.int .i64 m))(h1:1<=old.size)(hlen:s.size+Lib.countB s old*new.size<=140737488355328) :
  Calls Tryz.prog 305 #[.string s,.string old,.string new,.int .i64 n] w λe w' =>
   e=.returned (.string ⟨(Lib.replace s.data.toList old.data.toList new.data.toList n).toArray⟩)/\Below w.heap.size w w':=Any.strings_Replace Tryz.lays154 Tryz.Builder_Extra_154 s old new n m w hs hm h1 hlen
end Go.Proofs
namespace Go.Proofs.YtdkkaldimefljaaGreatDoor
section
open Go.AM Go.RowKit
theorem aGF{Z:HT}{w:World}(h:WSat Z w):∃m:Int,w.cell? ⟨0,0,none⟩=some (.int .i64 m):=by
 obtain⟨m,hm⟩:=h.glob.maxLen;obtain⟨_,v,hv,hr⟩:=h.sat _ _ _ hm;cases hr;exact⟨m,hv⟩
theorem aPV{Z:HT}{w:World}(h:WSat Z w):∃ev,w.cell? ⟨1,0,none⟩=some ev/\(ev=.nilIface\/∃te pe,ev=.iface te pe):=by
 obtain⟨_,v,hv,hr⟩:=h.sat _ _ _ h.glob.syn;cases hr with
 |opq _ hh=>exact⟨v,hv,hh⟩
theorem aPU{Z:HT}{w:World}(h:WSat Z w):∃ev,w.cell? ⟨2,0,none⟩=some ev/\(ev=.nilIface\/∃te pe,ev=.iface te pe):=by
 obtain⟨_,v,hv,hr⟩:=h.sat _ _ _ h.glob.rng;cases hr with
 |opq _ hh=>exact⟨v,hv,hh⟩
theorem aOG:Tryz.prog.globalNamed "internal/strconv.uint64pow10"=some 5:=by kernel_rfl
theorem aPT{Z:HT}{w:World}(h:WSat Z w):Lib.TabIs Tryz.prog w "internal/strconv.uint64pow10" .u64 Lib.pow10Tab:=by
 obtain⟨cs,t,fr,h1,h2⟩:=h.len5;simp only[Lib.TabIs,World.var?,aOG,Ai,h1];congr 1;apply Gq
 ·simp[h2,Lib.pow10Tab_length]
 ·intro i h3 h4
  have hi:i<20:=by omega
  obtain⟨_,v,hv,hr⟩:=h.sat _ _ _ (h.glob.pow i hi);cases hr;rw[World.cell?,h1] at hv;simp only[Gm,Bc,Dd] at hv
  have:cs[i]=.int .u64 ((10^i:Nat):Int):=by
   rw[Az h3] at hv;exact Ap hv
  rw[this];simp[Lib.pow10Tab]
def uG(s:List UInt8):Int:=match Lib.atoiAll (Lib.replace s [126] [45] 1) with
 |.ok n=>if Lib.replace (Lib.itoa n) [45] [126] 1==s then n else 0
 |_=>0
def uF(s:List UInt8):Int:=match Lib.atoiAll (Lib.replace s [126] [45] 1) with
 |.ok n=>if Lib.replace (Lib.itoa n) [45] [126] 1==s then 0 else 13
 |_=>13
theorem sH(a b:UInt8):∀(k:Nat)(s:List UInt8),(Lib.replaceK [a] [b] k s).length<=s.length
 |0,s=>by simp[Lib.replaceK]
 |k+1,s=>by
  unfold Lib.replaceK;split
  ·exact Ae _
  ·rename_i h
   have ih:=sH a b k (s.drop ((Lib.index s [a]).toNat+[a].length));simp only[Bu,Cj,Cp,Ew] at ih ⊢;have h1:=Lib.index_room s [a];have h2:=Lib.index_spec s [a];have h3:Lib.index s [a]≠-1:=by simpa using h
   have h4:0<=Lib.index s [a]:=by
    rcases h2 with⟨h2,_⟩|⟨i,h2,_⟩<;>omega
   have h5:=h1 h4;simp only[Ew] at h5;clear h2 h3 h1;generalize Lib.index s [a]=i at *;generalize(Lib.replaceK [a] [b] k (List.drop (i.toNat+1) s)).length=q at *;omega
theorem vh(a b:UInt8)(n:Int)(s:List UInt8):(Lib.replace s [a] [b] n).length<=s.length:=by
 unfold Lib.replace;split
 ·exact Ae _
 ·exact sH _ _ _ _
theorem lY(s:ByteArray)(a b:UInt8)(hs:s.size<=100000){Z:HT}{w:World}(hw:WSat Z w):Calls Tryz.prog 305 #[.string s,.string ⟨#[a]⟩,.string ⟨#[b]⟩,.int .i64 1] w λe w'=>e=.returned (.string ⟨(Lib.replace s.data.toList [a] [b] 1).toArray⟩)/\Below w.heap.size w w':=by
 obtain⟨m,hm⟩:=aGF hw;have h1:1<=(⟨#[a]⟩:ByteArray).size:=Ae _;have h2:=Lib.countB_le ⟨#[a]⟩ h1 _ s (Ae _);exact Tryz.strings_Replace s ⟨#[a]⟩ ⟨#[b]⟩ 1 m w (by omega) hm h1 (by show s.size+Lib.countB s ⟨#[a]⟩*1<=_;omega)
theorem aB5(n:Int)(h0:-9223372036854775808<=n)(h1:n<=9223372036854775807){Z:HT}{w:World}(hw:WSat Z w):Calls Tryz.prog 306 #[.int .i64 n] w λe w'=>e=.returned (.string ⟨(Lib.replace (Lib.itoa n) [45] [126] 1).toArray⟩)/\Below w.heap.size w w':=by
 have hl:=Lib.itoa_length_le n h0 h1;have hp:=aPT hw
 have key:∀k os,Calls Tryz.prog 305 #[.string ⟨(Lib.itoa n).toArray⟩,.string ⟨#[45]⟩,.string ⟨#[126]⟩,.int .i64 1] (Go.Sort.grow (w.drewN k) os) λe w'=>e=.returned (.string ⟨(Lib.replace (Lib.itoa n) [45] [126] 1).toArray⟩)/\Below w.heap.size w w':=λk os=>by
  have hb:Below w.heap.size w (Go.Sort.grow (w.drewN k) os):=Lib.below_grow _ _ (Ae _) _ _;refine(lY ⟨(Lib.itoa n).toArray⟩ 45 126 (by show(Lib.itoa n).toArray.size<=_;simp;omega) (eH hw hb)).mono λe w' ⟨e1,e2⟩=>⟨e1,hb.trans (e2.mono hb.size)⟩
 go_enter Tryz.func306,Tryz.ntmps306
 go_wp2_with (first
  |(go_at_call 317;refine(Tryz.strconv_Itoa n h0 h1 w hp).mono ?_;rintro e w1 ⟨rfl,k,os,rfl⟩)
  |(go_at_call 305;refine(key _ _).mono ?_;rintro e w2 ⟨rfl,EP⟩))
 go_ret
 exact⟨rfl,EP⟩
def aJl(x:Lib.NumEnd Int)(v:Int)(err:Value):Prop:=match x with
 |.ok n=>v=n/\err=.nilIface
 |_=>∃te pe,err=.iface te pe
theorem xj(s:ByteArray)(hs:s.size<=100000){Z:HT}{w:World}(hw:WSat Z w):Calls Tryz.prog 304 #[.string s] w λe w'=>∃v err,e=.returned (.tuple #[.int .i64 v,err])/\aJl (Lib.atoiAll s.data.toList) v err/\Below w.heap.size w w':=by
 cases hq:Lib.atoiAll s.data.toList
 ·rename_i v
  refine(Tryz.strconv_Atoi_ok s (by omega) v hq w).mono ?_
  rintro e w' ⟨rfl,h⟩
  refine⟨_,_,rfl,⟨rfl,rfl⟩,?_⟩;rcases h with rfl|⟨t,rfl⟩
  ·exact Below.refl _ _
  ·exact Lib.bytesWorld_below _ _ _
 ·obtain⟨ev,h1,h2⟩:=aPV hw
  refine(Any.strconv_Atoi_syntax Tryz.laysC172 s (by omega) hq ev w h1 h2).mono ?_
  rintro e w' ⟨N,rfl,_,_,h⟩
  exact⟨_,_,rfl,⟨_,_,rfl⟩,h⟩
 ·obtain⟨ev,h1,h2⟩:=aPU hw
  refine(Tryz.strconv_Atoi_range s (by omega) hq ev w h1 h2).mono ?_
  rintro e w' ⟨N,rfl,_,_,h⟩
  exact⟨_,_,rfl,⟨_,_,rfl⟩,h⟩
theorem aFc(s:ByteArray)(hs:s.size<=100000){Z:HT}{w:World}(hw:WSat Z w):Calls Tryz.prog 299 #[.string s] w λe w'=>e=.returned (.tuple #[.int .i64 (uG s.data.toList),.int .i64 (uF s.data.toList)])/\Below w.heap.size w w':=by
 have hr:=vh 126 45 1 s.data.toList
 have IF:∀w1,Below w.heap.size w w1->Calls Tryz.prog 304 #[.string ⟨(Lib.replace s.data.toList [126] [45] 1).toArray⟩] w1 λe w'=>∃v err,e=.returned (.tuple #[.int .i64 v,err])/\aJl (Lib.atoiAll (Lib.replace s.data.toList [126] [45] 1)) v err/\Below w.heap.size w w':=λw1 hb=>by
  refine(xj ⟨(Lib.replace s.data.toList [126] [45] 1).toArray⟩ ?_ (eH hw hb)).mono ?_
  ·show(Lib.replace s.data.toList [126] [45] 1).toArray.size<=_
   have:s.data.toList.length=s.size:=rfl
   simp only[Fo];omega
  ·rintro e w' ⟨v,err,h1,h2,h3⟩
   exact⟨v,err,h1,h2,hb.trans (h3.mono hb.size)⟩
 have QI:∀n w1,-9223372036854775808<=n->n<=9223372036854775807->Below w.heap.size w w1->Calls Tryz.prog 306 #[.int .i64 n] w1 λe w'=>e=.returned (.string ⟨(Lib.replace (Lib.itoa n) [45] [126] 1).toArray⟩)/\Below w.heap.size w w':=λn w1 h0 h1 hb=>(aB5 n h0 h1 (eH hw hb)).mono λe w' ⟨e1,e2⟩=>⟨e1,hb.trans (e2.mono hb.size)⟩
 cases hq:Lib.atoiAll (Lib.replace s.data.toList [126] [45] 1)
 ·rename_i n
  have hn:=Lib.atoiAll_bounds hq;rw[hq] at IF;by_cases hd:Lib.replace (Lib.itoa n) [45] [126] 1=s.data.toList
  ·go_enter Tryz.func299,Tryz.ntmps299
   go_wp2_with (first
    |(go_at_call 305;refine(lY s 126 45 hs hw).mono ?_;rintro e w1 ⟨rfl,DD⟩)
    |(go_at_call 304;refine(IF _ DD).mono ?_;rintro e w2 ⟨v,err,rfl,⟨rfl,rfl⟩,EP⟩)
    |(go_at_call 306;refine(QI _ _ hn.1 hn.2 EP).mono ?_;rintro e w3 ⟨rfl,Ir⟩))
   go_ret2
   exact⟨by simp[uG,uF,hq,hd],Ir⟩
  ·go_enter Tryz.func299,Tryz.ntmps299
   go_wp2_with (first
    |(go_at_call 305;refine(lY s 126 45 hs hw).mono ?_;rintro e w1 ⟨rfl,DD⟩)
    |(go_at_call 304;refine(IF _ DD).mono ?_;rintro e w2 ⟨v,err,rfl,⟨rfl,rfl⟩,EP⟩)
    |(go_at_call 306;refine(QI _ _ hn.1 hn.2 EP).mono ?_;rintro e w3 ⟨rfl,Ir⟩))
   ·go_ret2
    exact⟨by simp[uG,uF,hq,hd],Ir⟩
   ·rename_i h
    rw[ByteArray.toList_eq] at h;simp[hd] at h
 ·rw[hq] at IF
  go_enter Tryz.func299,Tryz.ntmps299
  go_wp2_with (first
   |(go_at_call 305;refine(lY s 126 45 hs hw).mono ?_;rintro e w1 ⟨rfl,DD⟩)
   |(go_at_call 304;refine(IF _ DD).mono ?_;rintro e w2 ⟨v,err,rfl,⟨te,pe,rfl⟩,EP⟩))
  go_ret2
  exact⟨by simp[uG,uF,hq],EP⟩
 ·rw[hq] at IF
  go_enter Tryz.func299,Tryz.ntmps299
  go_wp2_with (first
   |(go_at_call 305;refine(lY s 126 45 hs hw).mono ?_;rintro e w1 ⟨rfl,DD⟩)
   |(go_at_call 304;refine(IF _ DD).mono ?_;rintro e w2 ⟨v,err,rfl,⟨te,pe,rfl⟩,EP⟩))
  go_ret2
  exact⟨by simp[uG,uF,hq],EP⟩
theorem Ue{vs:Array Value}{n:Nat}(hl:n=vs.size)(h:n=1):vs=#[vs.getD 0 undef]:=by
 subst h;apply Gq
 ·simpa using hl.symm
 ·intro i h1 h2
  simp at h2;subst h2;simp[Array.getD,h1]
theorem O2{vs:Array Value}{n:Nat}(hl:n=vs.size)(h:n=2):vs=#[vs.getD 0 undef,vs.getD 1 undef]:=by
 subst h;apply Gq
 ·simpa using hl.symm
 ·intro i h1 h2
  simp at h2
  match i,h2 with
  |0,_=>simp[Array.getD,h1]
  |1,_=>simp[Array.getD,h1]
theorem aRv(s:List UInt8)(hs:s.length<=100000):PureT Tryz.prog 299 [.str s] [.int .i64 (uG s),.int .i64 (uF s)]:=by
 refine⟨⟨_,Tryz.func299,by kernel_rfl⟩,λw Z vs hw hl ha c cs=>?_⟩;have h0:=ha 0 _ rfl;have DK:=Ue hl rfl;generalize vs.getD 0 undef=v at h0 DK;subst DK;cases h0;have B5:=(aFc ⟨⟨s⟩⟩ hs hw).mono (R':=λe w'=>∃v,e=.returned v/\(v=.tuple #[.int .i64 (uG s),.int .i64 (uF s)]/\Below w.heap.size w w')) λe w' ⟨e1,e2⟩=>⟨_,e1,rfl,e2⟩
 obtain⟨w',v,⟨rfl,hb⟩,A7⟩:=fG B5 c cs;refine⟨w',Z,[.int .i64 (uG s),.int .i64 (uF s)],nI hb,eH hw hb,rfl,λi x u h1 h2=>?_,A7⟩
 match i with
 |0=>cases h1;cases h2;exact .int _ _
 |1=>cases h1;cases h2;exact .int _ _
 |i+2=>cases h1
theorem aRt(s:List UInt8)(c:UInt8):PureOK Tryz.prog 294 [.str s,.int .u8 c.toNat] (.int .i64 (Lib.indexByte s c)):=by
 refine PureOK.ofCalls ⟨_,Tryz.func294,by kernel_rfl⟩ λw Z vs hw hl ha=>?_
 have h0:=ha 0 _ rfl;have h1:=ha 1 _ rfl;have DK:=O2 hl rfl;generalize vs.getD 0 undef=v at h0 DK;generalize vs.getD 1 undef=v1 at h1 DK;subst DK;cases h0;cases h1;refine(Tryz.strings_IndexByte ⟨⟨s⟩⟩ c.toNat w).mono ?_
 rintro e w' ⟨rfl,rfl⟩
 refine⟨_,rfl,?_,Below.refl _ _⟩
 have:(Int.toNat (c.toNat:Int)).toUInt8=c:=by simp
 rw[this];exact .int _ _
theorem aRu(s p:List UInt8):PureOK Tryz.prog 298 [.str s,.str p] (.bool (Lib.hasPrefix s p)):=by
 refine PureOK.ofCalls ⟨_,Tryz.func298,by kernel_rfl⟩ λw Z vs hw hl ha=>?_
 have h0:=ha 0 _ rfl;have h1:=ha 1 _ rfl;have DK:=O2 hl rfl;generalize vs.getD 0 undef=v at h0 DK;generalize vs.getD 1 undef=v1 at h1 DK;subst DK;cases h0;cases h1;refine(Tryz.strings_HasPrefix ⟨⟨s⟩⟩ ⟨⟨p⟩⟩ w).mono ?_
 rintro e w' ⟨rfl,rfl⟩
 exact⟨_,rfl,.bool _,Below.refl _ _⟩
def Nr:dY:=λf args =>
 bif Nat.beq f 294 then(match args with
  |[.val (.str s),.val (.int .u8 c)]=>bif decide (0<=c)&&decide (c<256) then some (some (.ret (.val (.int .i64 (Lib.indexByte s c.toNat.toUInt8))))) else some none
  |_=>some none)
 else bif Nat.beq f 298 then(match args with
  |[.val (.str s),.val (.str p)]=>some (some (.ret (.val (.bool (Lib.hasPrefix s p)))))
  |_=>some none)
 else bif Nat.beq f 299 then(match args with
  |[.val (.str s)]=>bif Nat.ble s.length 1000 then some (some (.ret (.tup [.int .i64 (uG s),.int .i64 (uF s)]))) else some none
  |_=>some none)
 else none
noncomputable abbrev CL:aO:=DF Tryz.prog ans Nr
noncomputable abbrev LL:aP:=EH Tryz.prog ans Nr
theorem RX(B0:Nat):Env Tryz.prog ans B0 Nr:=Yg λf args res h=>by
 unfold Nr at h;cases h1:Nat.beq f 294 with
 |true =>
  obtain rfl:=Aa h1;simp only[h1,Ba] at h
  split at h
  ·rename_i s c
   cases hc:decide (0<=c)&&decide (c<256) with
   |false=>rw[hc] at h;cases h
   |true =>
    rw[hc] at h;cases h;simp only[Ac,Am] at hc
    have he:((c.toNat.toUInt8.toNat:Nat):Int)=c:=by
     have:c.toNat < 256:=by omega
     simp[Nat.toUInt8,Ey this];omega
    have:=(aRt s c.toNat.toUInt8).prim (ans:=ans) (B0:=B0) (by simp[lok,lokF])
    rw[he] at this;exact this
  ·cases h
 |false =>
  simp only[h1,Aq] at h;cases h2:Nat.beq f 298 with
  |true =>
   obtain rfl:=Aa h2;simp only[h2,Ba] at h
   split at h
   ·rename_i s p
    cases h;exact(aRu s p).prim (by simp[lok,lokF])
   ·cases h
  |false =>
   simp only[h2,Aq] at h;cases h3:Nat.beq f 299 with
   |true =>
    obtain rfl:=Aa h3;simp only[h3,Ba] at h
    split at h
    ·rename_i s
     cases hs:Nat.ble s.length 1000 with
     |false=>rw[hs] at h;cases h
     |true =>
      rw[hs] at h;cases h;exact(aRv s (by have:=Ah hs;omega)).prim (by simp[lok,lokF])
    ·cases h
   |false=>rw[h3] at h;cases h
end
section
open Go.AM
theorem zL(n:Nat):decide (0<=((n:Nat):Int))=true:=by simp
def jA(c:Int):Bool:=decide (48<=c)&&decide (c<=57)
def cH(c:Int):Bool:=decide (97<=c)&&decide (c<=122)
def cU(c:Int):Bool:=decide (65<=c)&&decide (c<=90)
def eO(c:Int):Bool:=cH c||cU c||jA c||c==95
def lD(c:Int):Bool:=c==32||c==9||c==10||c==13
theorem Rm(c:Int)(sto:AN):CL (.fn 287) [.val (.int .u8 c)] sto=some (.ret (.val (.bool (jA c))),sto):=by
 unfold jA;cases h:decide (48<=c)
 ·
  exact wk
 ·
  exact wk
theorem YO(c:Int)(sto:AN):CL (.fn 289) [.val (.int .u8 c)] sto=some (.ret (.val (.bool (cH c))),sto):=by
 unfold cH;cases h:decide (97<=c)
 ·
  exact wk
 ·
  exact wk
theorem aOk(c:Int)(sto:AN):CL (.fn 291) [.val (.int .u8 c)] sto=some (.ret (.val (.bool (cU c))),sto):=by
 unfold cU;cases h:decide (65<=c)
 ·
  exact wk
 ·
  exact wk
theorem Tg(c:Int)(sto:AN):CL (.fn 293) [.val (.int .u8 c)] sto=some (.ret (.val (.bool (eO c))),sto):=by
 have h1:=YO c;have h2:=aOk c;have h3:=Rm c;unfold eO;cases e1:cH c
 ·cases e2:cU c
  ·cases e3:jA c
   ·
    exact wk
   ·
    exact wk
  ·
   exact wk
 ·
  exact wk
theorem aQ0(c:Int)(sto:AN):CL (.fn 283) [.val (.int .u8 c)] sto=some (.ret (.val (.bool (lD c))),sto):=by
 unfold lD;cases e1:c==32
 ·cases e2:c==9
  ·cases e3:c==10
   ·
    exact wk
   ·
    exact wk
  ·
   exact wk
 ·
  exact wk
def sb(s:List UInt8)(at_:Nat)(c3 c4:Cell):AObj:=.box [.val (.str s),.val (.int .i64 (at_:Nat)),c3,c4]
theorem EE(s:List UInt8)(at_:Nat)(c3 c4:Cell):sb s at_ c3 c4=.box [.val (.str s),.val (.int .i64 (at_:Nat)),c3,c4]:=rfl
def aZ(s:List UInt8)(i:Nat):Int:=match s[i]? with
 |some b=>(b.toNat:Nat)
 |none=>0
theorem xp{A B C:AObj}{rest:List AObj}{lo:Nat}{c3 c4:Cell}(s:List UInt8)(at_ k:Nat)(K:Int)(hK:K=(k:Nat))(h1:at_+k<1000000) :
  CL (.fn 286) [.val (.loc 3 0),.val (.int .i64 K)] ⟨A::B::C::sb s at_ c3 c4::rest,lo⟩=some (.ret (.val (.int .u8 (aZ s (at_+k)))),⟨A::B::C::sb s at_ c3 c4::rest,lo⟩):=by
 have hw:IntKind.i64.wrap ((at_:Int)+K)=((at_+k:Nat):Int):=by rw[cZ (by omega) (by omega),hK];omega
 have hz:=zL (at_+k);rw[EE];unfold aZ;cases hs:s[at_+k]? with
 |none =>
  have AR:decide (((at_+k:Nat):Int)>=(s.length:Nat))=true:=by
   have:=Cy.1 hs
   rw[Am];omega
  clear hK h1 hs;exact wk
 |some b =>
  have AR:decide (((at_+k:Nat):Int)>=(s.length:Nat))=false:=by
   have:=(Ab.1 hs).1
   rw[Av];omega
  have JF:s[((at_+k:Nat):Int).toNat]?=some b:=hs;clear hK h1 hs;exact wk
theorem YP{A B C:AObj}{rest:List AObj}{lo:Nat}{c3 c4:Cell}(s p:List UInt8)(at_:Nat)(h1:at_<=s.length) :
  CL (.fn 284) [.val (.loc 3 0),.val (.str p)] ⟨A::B::C::sb s at_ c3 c4::rest,lo⟩=some (.ret (.val (.bool (Lib.hasPrefix (s.drop at_) p))),⟨A::B::C::sb s at_ c3 c4::rest,lo⟩):=by
 have hz:=zL at_;have hle:decide (((at_:Nat):Int)<=(s.length:Nat))=true:=by rw[Am];omega
 have D3:decide (((s.length:Nat):Int)<=(s.length:Nat))=true:=by rw[Am];omega
 have hp:∀t sto,CL (.fn 298) [.val (.str t),.val (.str p)] sto=some (.ret (.val (.bool (Lib.hasPrefix t p))),sto):=λt sto=>Li (r:=.ret (.val (.bool (Lib.hasPrefix t p)))) rfl rfl
 rw[EE];have ht:=Ez (l:=s);exact Km
def runN(p:Int->Bool)(s:List UInt8)(i:Nat):Nat:=((s.drop i).takeWhile λb=>p (b.toNat:Nat)).length
theorem aHQ{A B C:AObj}{rest:List AObj}{lo:Nat}{c3 c4:Cell}(g:FuncId)(hg:(ans g).ownArg=[])(p:Int->Bool)(hp:∀c sto,CL (.fn g) [.val (.int .u8 c)] sto=some (.ret (.val (.bool (p c))),sto))(s:List UInt8)(at_ k:Nat)(K:Int)(hK:K=(k:Nat))(ys:List UInt8):∀(n:Nat),s.drop (at_+k+n)=ys->at_+k+n+ys.length<1000000 ->
  ∃s0 s1 s2 s6 Rw,LL 282 (cG Tryz.f282 0) ⟨[.val (.loc 3 0),.val (.int .i64 K),.val (.func g []),.dead,.val (.int .i64 (n:Nat)),.dead],⟨A::B::C::sb s at_ c3 c4::rest,lo⟩⟩ =
   some (.exit 0,⟨[s0,s1,s2,s6,.val (.int .i64 ((n+(ys.takeWhile λb=>p (b.toNat:Nat)).length:Nat):Int)),Rw],⟨A::B::C::sb s at_ c3 c4::rest,lo⟩⟩):=by
 rw[EE];induction ys with
 |nil =>
  intro n hd hb;have hl:=List.drop_eq_nil_iff.1 hd;have hw:IntKind.i64.wrap ((at_:Int)+K)=((at_+k:Nat):Int):=by rw[cZ (by omega) (by omega),hK];omega
  have HG:IntKind.i64.wrap (((at_+k:Nat):Int)+(n:Nat))=((at_+k+n:Nat):Int):=by rw[cZ (by omega) (by omega)];omega
  have AR:decide (((at_+k+n:Nat):Int)<(s.length:Nat))=false:=by rw[Av];omega
  clear hK hd hb hl;(iterate 5 apply Exists.intro);refine tI rfl ?_;exact wk
 |cons y ys ih =>
  intro n hd hb
  have hlen:at_+k+n<s.length:=by
   rcases Ck (at_+k+n) s.length with h|h
   ·exact h
   ·rw[Dn h] at hd;cases hd
  have BI:s[((at_+k+n:Nat):Int).toNat]?=some y:=by
   show s[at_+k+n]?=some y;rw[Cc hlen] at hd;rw[Bf hlen];exact Ar some (Fu hd).1
  have KU:s.drop (at_+k+(n+1))=ys:=by
   rw[Cc hlen] at hd;exact(Fu hd).2
  simp only[Ay] at hb;have hw:IntKind.i64.wrap ((at_:Int)+K)=((at_+k:Nat):Int):=by rw[cZ (by omega) (by omega),hK];omega
  have HG:IntKind.i64.wrap (((at_+k:Nat):Int)+(n:Nat))=((at_+k+n:Nat):Int):=by rw[cZ (by omega) (by omega)];omega
  have hw3:IntKind.i64.wrap ((n:Int)+1)=((n+1:Nat):Int):=by rw[cZ (by omega) (by omega)];omega
  have AR:decide (((at_+k+n:Nat):Int)<(s.length:Nat))=true:=by rw[Am];omega
  have hz:=zL (at_+k+n);cases hq:p (y.toNat:Nat) with
  |false =>
   simp only[Ff,hq];clear hK hd KU hb hlen ih;(iterate 5 apply Exists.intro);refine tI rfl ?_;exact wk
  |true =>
   obtain⟨s0,s1,s2,s6,Rw,h⟩:=ih (n+1) KU (by omega);simp only[Ff,hq,Dk,Ay];rw[show n+((ys.takeWhile λb=>p (b.toNat:Nat)).length+1)=n+1+(ys.takeWhile λb=>p (b.toNat:Nat)).length by omega];refine⟨s0,s1,s2,s6,Rw,?_⟩;refine tI rfl ?_;clear hK hd KU hb hlen ih;exact wk
theorem OU{A B C:AObj}{rest:List AObj}{lo:Nat}{c3 c4:Cell}(g:FuncId)(hg:(ans g).ownArg=[])(p:Int->Bool)(hp:∀c sto,CL (.fn g) [.val (.int .u8 c)] sto=some (.ret (.val (.bool (p c))),sto))(s:List UInt8)(at_ k:Nat)(K:Int)(hK:K=(k:Nat))(hb:at_+k+s.length<1000000) :
  CL (.fn 282) [.val (.loc 3 0),.val (.int .i64 K),.val (.func g [])] ⟨A::B::C::sb s at_ c3 c4::rest,lo⟩=some (.ret (.val (.int .i64 ((runN p s (at_+k):Nat):Int))),⟨A::B::C::sb s at_ c3 c4::rest,lo⟩):=by
 obtain⟨s0,s1,s2,s6,Rw,h⟩:=aHQ (A:=A) (B:=B) (C:=C) (rest:=rest) (lo:=lo) (c3:=c3) (c4:=c4) g hg p hp s at_ k K hK _ 0 rfl (by rw[Cp];omega);simp only[Bk,Bn] at h;have e0:((0:Nat):Int)=0:=rfl;rw[e0] at h;unfold runN;clear hK hb;exact wk
def cV(kind num:Int)(BB:List UInt8)(at_:Nat):AVal:=.agg [.int .i64 kind,.int .i64 num,.str BB,.int .i64 (at_:Nat)]
def bB(a e:Int):AVal:=.iface 277 (.agg [.int .i64 a,.int .i64 e])
theorem aQ3{A B C:AObj}{rest:List AObj}{lo:Nat}{c3 c4:Cell}(s:List UInt8)(at_ n:Nat)(kind K:Int)(hK:K=(n:Nat))(h1:at_+n<=s.length)(h2:s.length<1000000) :
  CL (.fn 292) [.val (.loc 3 0),.val (.int .i64 kind),.val (.int .i64 K)] ⟨A::B::C::sb s at_ c3 c4::rest,lo⟩ =
   bif decide (K>24) then some (.pan (bB at_ 2),⟨A::B::C::sb s at_ c3 c4::rest,lo⟩) else some (.ret (.val (cV kind 0 ((s.take (at_+n)).drop at_) at_)),⟨A::B::C::sb s at_ c3 c4::rest,lo⟩):=by
 have hw:IntKind.i64.wrap ((at_:Int)+K)=((at_+n:Nat):Int):=by rw[cZ (by omega) (by omega),hK];omega
 have hz:=zL at_;have hle:decide (((at_:Nat):Int)<=((at_+n:Nat):Int))=true:=by rw[Am];omega
 have D3:decide (((at_+n:Nat):Int)<=(s.length:Nat))=true:=by rw[Am];omega
 rw[EE];cases hc:decide (K>24) with
 |true =>
  simp only[Ba];clear hK;exact wk
 |false =>
  simp only[Aq];clear hK;exact wk
def cr(x:Option (ARes×AN))(s:List UInt8)(at_:Nat)(sto:AN)(Q:Int->List UInt8->Prop)(R:Prop):Prop :=
 (∃kind num BB,x=some (.ret (.val (cV kind num BB at_)),sto)/\0<BB.length/\at_+BB.length<=s.length/\Q kind BB)\/∃a e,x=some (.pan (bB a e),sto)/\R
theorem wR{A B C:AObj}{rest:List AObj}{lo:Nat}{c3 c4:Cell}(s:List UInt8)(at_ n:Nat)(kind K:Int)(hK:K=(n:Nat))(h1:at_+n<=s.length)(h2:s.length<1000000)(h3:0<n) :
  cr (CL (.fn 292) [.val (.loc 3 0),.val (.int .i64 kind),.val (.int .i64 K)] ⟨A::B::C::sb s at_ c3 c4::rest,lo⟩) s at_ ⟨A::B::C::sb s at_ c3 c4::rest,lo⟩ (λkd BB=>kd=kind/\BB=(s.take (at_+n)).drop at_) (24<n):=by
 rw[aQ3 s at_ n kind K hK h1 h2];cases hc:decide (K>24) with
 |true=>exact .inr ⟨_,_,rfl,by have:=Et hc;omega⟩
 |false=>exact .inl ⟨_,_,_,rfl,by rw[Cp,Cj];omega,by rw[Cp,Cj];omega,rfl,rfl⟩
def wordL:List (List UInt8):=[[97,110,100],[99,97,115,101],[100,97,116,97],[101,108,115,101],[101,110,100],[102,110],[102,117,110],[105,102],[105,110],[105,110,112,117,116],[108,101,116],[111,102],[111,117,116,112,117,116],[116,104,101,110],[118,97,108]]
def cR:List (AVal×AVal):=wordL.map λw=>(.str w,.int .i64 5)
theorem qS(t:List UInt8):fZ (.str t) cR=some (if wordL.contains t then some (.int .i64 5) else none):=by
 unfold cR;induction wordL with
 |nil=>rfl
 |cons w l ih =>
  simp only[Aw,fZ,eC,Ai,List.contains_cons];cases h:(t==w) with
  |true=>rfl
  |false=>rw[Fx];exact ih
theorem kY(p:Int->Bool)(s:List UInt8)(i:Nat):i+runN p s i<=max i s.length:=by
 have:((s.drop i).takeWhile λb=>p (b.toNat:Nat)).length<=(s.drop i).length:=(List.takeWhile_prefix _).length_le
 unfold runN;rw[Cp] at this;omega
theorem vj(p:Int->Bool)(s:List UInt8)(i:Nat)(h:i<s.length)(hp:p (aZ s i)=true):0<runN p s i:=by
 unfold runN;rw[Cc h,Ff]
 have:aZ s i=(s[i].toNat:Nat):=by unfold aZ;rw[Bf h]
 rw[<-this,hp];simp
theorem pB(s:List UInt8)(i:Nat)(h:aZ s i≠0):i<s.length:=by
 rcases Ck i s.length with h1|h1
 ·exact h1
 ·exfalso;apply h;unfold aZ;rw[List.getElem?_eq_none h1]
def iJ(s:List UInt8)(at_:Nat):Nat :=
 let n:=runN eO s at_
 bif aZ s (at_+n)==39 then(let d:=runN jA s (at_+(n+1));bif decide ((d:Int)>0) then n+(1+d) else n) else n
def jT(s:List UInt8)(at_:Nat):List UInt8:=(s.take (at_+iJ s at_)).drop at_
theorem aQ2{A B:AObj}{rest:List AObj}{lo:Nat}{c4:Cell}(s:List UInt8)(at_:Nat)(kind:Int)(h1:at_<s.length)(h2:s.length<1000)(hp:eO (aZ s at_)=true) :
  cr (CL (.fn 290) [.val (.loc 3 0),.val (.int .i64 kind)] ⟨A::B::.map cR::sb s at_ (.val (.amap 2)) c4::rest,lo⟩) s at_ ⟨A::B::.map cR::sb s at_ (.val (.amap 2)) c4::rest,lo⟩ (λkd BB=>BB=jT s at_/\kd=bif wordL.contains BB then 5 else kind) (24<iJ s at_):=by
 have g293:(ans 293).ownArg=[]:=by rw[Yj]
 have g287:(ans 287).ownArg=[]:=by rw[UQ]
 have P8:=vj eO s at_ h1 hp;have P7:=kY eO s at_;have E4:=OU (A:=A) (B:=B) (C:=.map cR) (rest:=rest) (lo:=lo) (c3:=.val (.amap 2)) (c4:=c4) 293 g293 eO Tg s at_ 0 0 rfl (by omega);rw[Bk] at E4;generalize hn:runN eO s at_=n at *;have GI:=xp (A:=A) (B:=B) (C:=.map cR) (rest:=rest) (lo:=lo) (c3:=.val (.amap 2)) (c4:=c4) s at_ n (n:Nat) rfl (by omega);have hx:True:=trivial;rw[EE] at E4 GI ⊢;cases KZ:(aZ s (at_+n)==39) with
 |false =>
  have hN:iJ s at_=n:=by simp only[iJ,hn,KZ,Aq]
  rcases wR (A:=A) (B:=B) (C:=.map cR) (rest:=rest) (lo:=lo) (c3:=.val (.amap 2)) (c4:=c4) s at_ (n) kind ((n:Nat):Int) rfl (by omega) (by omega) (by omega) with⟨kd,num,BB,hm,DM,C5,hq⟩|⟨a,e,hm,hq⟩
  ·
   have I4:=qS BB;rw[cV,EE] at hm;cases I5:wordL.contains BB with
   |true =>
    rw[I5] at I4;simp only[Dk,Bc,Dd] at I4;refine .inl ⟨5,num,BB,?_,DM,C5,hq.2.trans (by rw[jT,hN]),by rw[I5];rfl⟩;rw[cV];clear hq;exact wk
   |false =>
    rw[I5] at I4;simp only[Dk,Bc,Dd] at I4;refine .inl ⟨kd,num,BB,?_,DM,C5,hq.2.trans (by rw[jT,hN]),by rw[I5];exact hq.1⟩;rw[cV];clear hq;exact wk
  ·
   rw[EE,bB] at hm;refine .inr ⟨a,e,?_,by rw[hN];exact hq⟩;rw[bB];exact wk
 |true =>
  have h5:at_+n<s.length:=pB _ _ (by intro h;rw[h] at KZ;cases KZ);have IC:=kY jA s (at_+(n+1));have DJ:IntKind.i64.wrap ((n:Int)+1)=((n+1:Nat):Int):=by rw[cZ (by omega) (by omega)];omega
  have hx:=OU (A:=A) (B:=B) (C:=.map cR) (rest:=rest) (lo:=lo) (c3:=.val (.amap 2)) (c4:=c4) 287 g287 jA Rm s at_ (n+1) ((n+1:Nat):Int) rfl (by omega);rw[EE] at hx;generalize Pm:runN jA s (at_+(n+1))=d at *;have HG:IntKind.i64.wrap (1+(d:Int))=((1+d:Nat):Int):=by rw[cZ (by omega) (by omega)];omega
  have hw3:IntKind.i64.wrap ((n:Int)+((1+d:Nat):Int))=((n+(1+d):Nat):Int):=by rw[cZ (by omega) (by omega)];omega
  cases hd:decide ((d:Int)>0) with
  |false =>
   have hN:iJ s at_=n:=by simp only[iJ,hn,KZ,Pm,hd,Aq,Ba]
   rcases wR (A:=A) (B:=B) (C:=.map cR) (rest:=rest) (lo:=lo) (c3:=.val (.amap 2)) (c4:=c4) s at_ (n) kind ((n:Nat):Int) rfl (by omega) (by omega) (by omega) with⟨kd,num,BB,hm,DM,C5,hq⟩|⟨a,e,hm,hq⟩
   ·
    have I4:=qS BB;rw[cV,EE] at hm;cases I5:wordL.contains BB with
    |true =>
     rw[I5] at I4;simp only[Dk,Bc,Dd] at I4;refine .inl ⟨5,num,BB,?_,DM,C5,hq.2.trans (by rw[jT,hN]),by rw[I5];rfl⟩;rw[cV];clear hq;exact wk
    |false =>
     rw[I5] at I4;simp only[Dk,Bc,Dd] at I4;refine .inl ⟨kd,num,BB,?_,DM,C5,hq.2.trans (by rw[jT,hN]),by rw[I5];exact hq.1⟩;rw[cV];clear hq;exact wk
   ·
    rw[EE,bB] at hm;refine .inr ⟨a,e,?_,by rw[hN];exact hq⟩;rw[bB];exact wk
  |true =>
   have hN:iJ s at_=n+(1+d):=by simp only[iJ,hn,KZ,Pm,hd,Ba]
   rcases wR (A:=A) (B:=B) (C:=.map cR) (rest:=rest) (lo:=lo) (c3:=.val (.amap 2)) (c4:=c4) s at_ (n+(1+d)) kind ((n+(1+d):Nat):Int) rfl (by omega) (by omega) (by omega) with⟨kd,num,BB,hm,DM,C5,hq⟩|⟨a,e,hm,hq⟩
   ·
    have I4:=qS BB;rw[cV,EE] at hm;cases I5:wordL.contains BB with
    |true =>
     rw[I5] at I4;simp only[Dk,Bc,Dd] at I4;refine .inl ⟨5,num,BB,?_,DM,C5,hq.2.trans (by rw[jT,hN]),by rw[I5];rfl⟩;rw[cV];clear hq;exact wk
    |false =>
     rw[I5] at I4;simp only[Dk,Bc,Dd] at I4;refine .inl ⟨kd,num,BB,?_,DM,C5,hq.2.trans (by rw[jT,hN]),by rw[I5];exact hq.1⟩;rw[cV];clear hq;exact wk
   ·
    rw[EE,bB] at hm;refine .inr ⟨a,e,?_,by rw[hN];exact hq⟩;rw[bB];exact wk
theorem ue{s:List UInt8}{sto:AN}(h:s.length<=1000):CL (.fn 299) [.val (.str s)] sto=some (.ret (.tup [.int .i64 (uG s),.int .i64 (uF s)]),sto):=by
 refine Li (r:=.ret (.tup [.int .i64 (uG s),.int .i64 (uF s)])) ?_ rfl
 have:Nat.ble s.length 1000=true:=Aj h
 simp only[Nr,show Nat.beq 299 294=false from rfl,show Nat.beq 299 298=false from rfl,show Nat.beq 299 299=true from rfl,Aq,Ba,this]
theorem aOj{A B C:AObj}{rest:List AObj}{lo:Nat}{c3 c4:Cell}(s:List UInt8)(at_:Nat)(h1:at_<s.length)(h2:s.length<1000)(Wa:(aZ s at_==126)=true) :
  cr (CL (.fn 288) [.val (.loc 3 0)] ⟨A::B::C::sb s at_ c3 c4::rest,lo⟩) s at_ ⟨A::B::C::sb s at_ c3 c4::rest,lo⟩ (λkd _=>kd=1) True:=by
 have g287:(ans 287).ownArg=[]:=by rw[UQ]
 have IC:=kY jA s (at_+1);have GI:=xp (A:=A) (B:=B) (C:=C) (rest:=rest) (lo:=lo) (c3:=c3) (c4:=c4) s at_ 0 0 rfl (by omega);have E4:=OU (A:=A) (B:=B) (C:=C) (rest:=rest) (lo:=lo) (c3:=c3) (c4:=c4) 287 g287 jA Rm s at_ 1 1 rfl (by omega);rw[Bk] at GI;generalize hd:runN jA s (at_+1)=d at *;have hw:IntKind.i64.wrap (1+(d:Int))=((1+d:Nat):Int):=by rw[cZ (by omega) (by omega)];omega
 have HG:IntKind.i64.wrap ((at_:Int)+1)=((at_+1:Nat):Int):=by rw[cZ (by omega) (by omega)];omega
 have hw3:IntKind.i64.wrap (((at_+1:Nat):Int)+(d:Int))=((at_+1+d:Nat):Int):=by rw[cZ (by omega) (by omega)];omega
 have HY:=xp (A:=A) (B:=B) (C:=C) (rest:=rest) (lo:=lo) (c3:=c3) (c4:=c4) s at_ (1+d) ((1+d:Nat):Int) rfl (by omega);have hz:=zL at_;have hle:decide (((at_:Nat):Int)<=((at_+1+d:Nat):Int))=true:=by rw[Am];omega
 have D3:decide (((at_+1+d:Nat):Int)<=(s.length:Nat))=true:=by rw[Am];omega
 have hl:((s.take (at_+1+d)).drop at_).length=1+d:=by rw[Cp,Cj];omega
 have W7:=λsto=>ue (s:=(s.take (at_+1+d)).drop at_) (sto:=sto) (by omega)
 have W8:=Tg (aZ s (at_+(1+d)));generalize ht:(s.take (at_+1+d)).drop at_=t at *;generalize uG t=v at *;generalize Ip:uF t=ev at *;generalize aZ s (at_+(1+d))=nx at *;rw[EE] at GI E4 HY ⊢;cases he:(ev==0) with
 |false =>
  refine .inr ⟨(at_:Nat),13,?_,trivial⟩;rw[bB];exact Km
 |true =>
  cases hp:eO nx with
  |true =>
   refine .inr ⟨(at_:Nat),13,?_,trivial⟩;rw[bB];exact Km
  |false =>
   cases hq:(nx==39) with
   |true =>
    refine .inr ⟨(at_:Nat),13,?_,trivial⟩;rw[bB];exact Km
   |false =>
    refine .inl ⟨1,v,t,?_,by omega,by omega,rfl⟩;rw[cV];exact Km
theorem aOi{A B C:AObj}{rest:List AObj}{lo:Nat}{c3 c4:Cell}(s:List UInt8)(at_:Nat)(h1:at_<s.length)(h2:s.length<1000)(Wa:(aZ s at_==126)=false)(hd0:jA (aZ s at_)=true) :
  cr (CL (.fn 288) [.val (.loc 3 0)] ⟨A::B::C::sb s at_ c3 c4::rest,lo⟩) s at_ ⟨A::B::C::sb s at_ c3 c4::rest,lo⟩ (λkd _=>kd=1) True:=by
 have g287:(ans 287).ownArg=[]:=by rw[UQ]
 have IC:=kY jA s at_;have hd0:0<runN jA s at_:=vj jA s at_ h1 hd0;have GI:=xp (A:=A) (B:=B) (C:=C) (rest:=rest) (lo:=lo) (c3:=c3) (c4:=c4) s at_ 0 0 rfl (by omega);have E4:=OU (A:=A) (B:=B) (C:=C) (rest:=rest) (lo:=lo) (c3:=c3) (c4:=c4) 287 g287 jA Rm s at_ 0 0 rfl (by omega);rw[Bk] at GI E4;generalize hd:runN jA s at_=d at *;have hw:IntKind.i64.wrap (0+(d:Int))=((d:Nat):Int):=by rw[cZ (by omega) (by omega)];omega
 have HG:IntKind.i64.wrap ((at_:Int)+0)=((at_:Nat):Int):=by rw[cZ (by omega) (by omega)];omega
 have hw3:IntKind.i64.wrap (((at_:Nat):Int)+(d:Int))=((at_+d:Nat):Int):=by rw[cZ (by omega) (by omega)];omega
 have HY:=xp (A:=A) (B:=B) (C:=C) (rest:=rest) (lo:=lo) (c3:=c3) (c4:=c4) s at_ d ((d:Nat):Int) rfl (by omega);have hz:=zL at_;have hle:decide (((at_:Nat):Int)<=((at_+d:Nat):Int))=true:=by rw[Am];omega
 have D3:decide (((at_+d:Nat):Int)<=(s.length:Nat))=true:=by rw[Am];omega
 have hl:((s.take (at_+d)).drop at_).length=d:=by rw[Cp,Cj];omega
 have W7:=λsto=>ue (s:=(s.take (at_+d)).drop at_) (sto:=sto) (by omega)
 have W8:=Tg (aZ s (at_+d));generalize ht:(s.take (at_+d)).drop at_=t at *;generalize uG t=v at *;generalize Ip:uF t=ev at *;generalize aZ s (at_+d)=nx at *;rw[EE] at GI E4 HY ⊢;cases he:(ev==0) with
 |false =>
  refine .inr ⟨(at_:Nat),13,?_,trivial⟩;rw[bB];exact Km
 |true =>
  cases hp:eO nx with
  |true =>
   refine .inr ⟨(at_:Nat),13,?_,trivial⟩;rw[bB];exact Km
  |false =>
   cases hq:(nx==39) with
   |true =>
    refine .inr ⟨(at_:Nat),13,?_,trivial⟩;rw[bB];exact Km
   |false =>
    refine .inl ⟨1,v,t,?_,by omega,by omega,rfl⟩;rw[cV];exact Km
end
end Go.Proofs.YtdkkaldimefljaaGreatDoor
