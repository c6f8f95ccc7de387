/- Lemmas of one proof. -/
import Derived.Test.YthfkmcbblnbfaaaGreatDoorM90W
import Derived.Test.YthfkmcbblnbfaaaGreatDoorProg
import Derived.Ground.NamesProg
import Derived.Shelf.Strconv.Itoa3
import Derived.Shelf.Strconv.AtoiAll
import Derived.Shelf.Strings.Split
import Derived.Shelf.Strings.OnBuilder

namespace Go.Proofs.YthfkmcbblnbfaaaGreatDoor
set_option maxRecDepth 100000
set_option maxHeartbeats 16000000
section
open Go.Shelf
def xU:Go.Shelf.Ren:=⟨fun | 171=>128 | 243=>177 | 246=>231 | 283=>284 | 284=>285 | 285=>286 | 286=>287 | 129=>274 | 317=>311 | 318=>312 | 319=>313 | 320=>314 | 337=>320 | 338=>321 | n=>n,fun | 3=>3 | 9=>9 | 2=>2 | 4=>4 | 171=>313 | 0=>0 | 53=>286 | 37=>177 | 5=>5 | 173=>315 | 212=>338 | 51=>278 | 20=>20 | 213=>339 | 46=>180 | 232=>352 | 233=>353 | n=>n,fun | 17=>4 | 18=>7 | 19=>8 | n=>n⟩
theorem Dx:Go.Proofs.LaysM.n171 Tryz.prog xU:= {
 mixed:=φ,f129:=χ Tryz.func274,f171:=χ Tryz.func128,f243:=χ Tryz.func177,f246:=χ Tryz.func231,f283:=χ Tryz.func284,f284:=χ Tryz.func285,f285:=χ Tryz.func286,
 f286:=χ Tryz.func287,f317:=χ Tryz.func311,f318:=χ Tryz.func312,f319:=χ Tryz.func313,f320:=χ Tryz.func314,f337:=χ Tryz.func320,f338:=χ Tryz.func321,
 t0:=Tryz.underlying0,a0:=Tryz.isAgg0,z0:=Tryz.sizeOf0,v0:=Tryz.zeroValue0,t2:=Tryz.underlying2,a2:=Tryz.isAgg2,z2:=Tryz.sizeOf2,v2:=Tryz.zeroValue2,t3:=Tryz.underlying3,a3:=Tryz.isAgg3,z3:=Tryz.sizeOf3,v3:=Tryz.zeroValue3,t4:=Tryz.underlying4,a4:=Tryz.isAgg4,z4:=Tryz.sizeOf4,v4:=Tryz.zeroValue4,t5:=Tryz.underlying5,a5:=Tryz.isAgg5,z5:=Tryz.sizeOf5,
 v5:=Tryz.zeroValue5,t9:=Tryz.underlying9,a9:=Tryz.isAgg9,z9:=Tryz.sizeOf9,v9:=Tryz.zeroValue9,t20:=Tryz.underlying20,a20:=Tryz.isAgg20,z20:=Tryz.sizeOf20,v20:=Tryz.zeroValue20,t37:=Tryz.underlying177,a37:=Tryz.isAgg177,z37:=Tryz.sizeOf177,v37:=Tryz.zeroValue177,t46:=Tryz.underlying180,a46:=Tryz.isAgg180,z46:=Tryz.sizeOf180,v46:=Tryz.zeroValue180,t51:=Tryz.underlying278,
 a51:=Tryz.isAgg278,z51:=Tryz.sizeOf278,v51:=Tryz.zeroValue278,t53:=Tryz.underlying286,a53:=Tryz.isAgg286,z53:=Tryz.sizeOf286,v53:=Tryz.zeroValue286,t171:=Tryz.underlying313,a171:=Tryz.isAgg313,z171:=Tryz.sizeOf313,v171:=Tryz.zeroValue313,t173:=Tryz.underlying315,a173:=Tryz.isAgg315,z173:=Tryz.sizeOf315,v173:=Tryz.zeroValue315,t212:=Tryz.underlying338,a212:=Tryz.isAgg338,
 z212:=Tryz.sizeOf338,v212:=Tryz.zeroValue338,t213:=Tryz.underlying339,a213:=Tryz.isAgg339,z213:=Tryz.sizeOf339,t232:=Tryz.underlying352,a232:=Tryz.isAgg352,z232:=Tryz.sizeOf352,v232:=Tryz.zeroValue352,t233:=Tryz.underlying353,a233:=Tryz.isAgg353,z233:=Tryz.sizeOf353,v233:=Tryz.zeroValue353,g17:=φ,g18:=φ,g19:=φ,i0:=φ,
 i2:=φ,i3:=φ,i4:=φ,i5:=φ,i9:=φ,i20:=φ,i37:=φ,i46:=φ,i51:=φ,i53:=φ,i171:=φ,i173:=φ,i212:=φ,i232:=φ,i233:=φ,m17:=φ,m18:=φ,m19:=by kernel_rfl}
def xV:Go.Shelf.Ren:=⟨fun | 172=>77 | 244=>136 | 245=>137 | 247=>189 | 279=>190 | 280=>191 | 281=>192 | 282=>193 | 287=>243 | 316=>244 | 171=>128 | 205=>245 | 321=>300 | 322=>301 | 243=>177 | 246=>231 | 283=>284 | 284=>285 | 285=>286 | 286=>287 | 129=>274 | 317=>311 | 318=>312 | 319=>313 | 320=>314 | 337=>320 | 338=>321 | n=>n,fun | 9=>9 | 3=>3 | 75=>127 | 76=>128 | 4=>4 | 5=>5 | 167=>245 | 37=>177 | 0=>0 | 85=>246 | 2=>2 | 168=>248 | 53=>286 | 175=>287 | 46=>180 | 210=>291 | 127=>280 | 145=>327 | 143=>325 | 21=>21 | 171=>313 | 173=>315 | 212=>338 | 51=>278 | 20=>20 | 213=>339 | 232=>352 | 233=>353 | 80=>240 | n=>n,fun | 15=>1 | 16=>2 | 17=>4 | 18=>7 | 19=>8 | n=>n⟩
def xh:Go.Shelf.Ren:=⟨fun | 146=>76 | 221=>135 | 268=>186 | 138=>187 | 143=>188 | 195=>239 | 197=>240 | 218=>241 | 219=>242 | 260=>295 | 217=>296 | 225=>297 | 224=>298 | 267=>299 | 266=>317 | 314=>318 | n=>n,fun | 9=>9 | 31=>48 | 3=>3 | 4=>4 | 0=>0 | 105=>283 | 21=>21 | 5=>5 | 46=>180 | 119=>341 | 139=>344 | 138=>343 | 146=>345 | 51=>278 | n=>n,fun | 1=>3 | 3=>5 | 4=>6 | n=>n⟩
def ri:Go.Shelf.Ren:=⟨fun | 156=>129 | 165=>178 | 166=>179 | 169=>180 | 240=>232 | 241=>233 | 276=>288 | 277=>289 | n=>n,fun | 31=>48 | 9=>9 | 3=>3 | 4=>4 | 0=>0 | 20=>20 | 72=>239 | 76=>128 | 70=>237 | 37=>177 | 75=>127 | 127=>280 | 164=>317 | 5=>5 | 80=>240 | n=>n,fun | n=>n⟩
theorem vT:Go.Proofs.Lays.n156 Tryz.prog ri:= {
 mixed:=φ,f156:=χ Tryz.func129,f165:=χ Tryz.func178,f166:=χ Tryz.func179,f169:=χ Tryz.func180,f240:=χ Tryz.func232,f241:=χ Tryz.func233,f276:=χ Tryz.func288,
 f277:=χ Tryz.func289,t0:=Tryz.underlying0,a0:=Tryz.isAgg0,z0:=Tryz.sizeOf0,v0:=Tryz.zeroValue0,t3:=Tryz.underlying3,a3:=Tryz.isAgg3,z3:=Tryz.sizeOf3,v3:=Tryz.zeroValue3,t4:=Tryz.underlying4,a4:=Tryz.isAgg4,z4:=Tryz.sizeOf4,v4:=Tryz.zeroValue4,t9:=Tryz.underlying9,a9:=Tryz.isAgg9,z9:=Tryz.sizeOf9,v9:=Tryz.zeroValue9,
 t20:=Tryz.underlying20,a20:=Tryz.isAgg20,z20:=Tryz.sizeOf20,v20:=Tryz.zeroValue20,t31:=Tryz.underlying48,a31:=Tryz.isAgg48,z31:=Tryz.sizeOf48,v31:=Tryz.zeroValue48,t37:=Tryz.underlying177,a37:=Tryz.isAgg177,z37:=Tryz.sizeOf177,v37:=Tryz.zeroValue177,t70:=Tryz.underlying237,a70:=Tryz.isAgg237,z70:=Tryz.sizeOf237,v70:=Tryz.zeroValue237,t72:=Tryz.underlying239,
 a72:=Tryz.isAgg239,z72:=Tryz.sizeOf239,v72:=Tryz.zeroValue239,t75:=Tryz.underlying127,a75:=Tryz.isAgg127,z75:=Tryz.sizeOf127,v75:=Tryz.zeroValue127,t76:=Tryz.underlying128,a76:=Tryz.isAgg128,z76:=Tryz.sizeOf128,v76:=Tryz.zeroValue128,t127:=Tryz.underlying280,a127:=Tryz.isAgg280,z127:=Tryz.sizeOf280,v127:=Tryz.zeroValue280,t164:=Tryz.underlying317,a164:=Tryz.isAgg317,
 z164:=Tryz.sizeOf317,v164:=Tryz.zeroValue317}
theorem um:Builder.Extra Tryz.prog ri where
 sizeBuilder:=by kernel_rfl
 liesBuilder:=φ
 t5:=Tryz.underlying5
 a5:=Tryz.isAgg5
 z5:=Tryz.sizeOf5
 v5:=Tryz.zeroValue5
 infoByte:=φ
 cellsByte:=φ
 sizeByte:=φ
 neB5:=κ
end
