/-
  A part of the proof. Conditions: none.
-/
import Derived.Shelf.LaysM
import Derived.Shelf.Strconv.Itoa3
import Derived.Shelf.LaysC
import Derived.Shelf.Strconv.AtoiAll
import Derived.Shelf.Strings.Count
import Derived.Shelf.Strings.Repeat
import Derived.Test.YtebakpoggommpaaGreatDoorProg
import Derived.Shelf.Sort.Plain
import Derived.Shelf.Bits.Mul64
import Derived.Ground.Names2Prog
import Derived.Shelf.Slices.CompactI
import Derived.Shelf.Slices.Delete
import Derived.Shelf.Slices.In.SortNone
import Derived.Shelf.Lays2
import Derived.Shelf.RegionOpenPlain
import Derived.WalkKit
import Derived.Deep.LoopGhost
import Derived.Deep.RegionLaw
import Derived.Lib.Walk
import Derived.Sort.WalkB12
import Derived.Lib.SliceRun
import Derived.Lib.SlicesDelete
set_option linter.unusedSimpArgs false
set_option linter.unusedVariables false
open Go.Proofs.Tryz renaming prog→Ga
noncomputable section
section
open Go.Shelf
namespace Go.Proofs
section
def Tryz.laysM171_ren:Go.Shelf.Ren:=⟨fun | 171=>172 | 243=>193 | 246=>212 | 283=>227 | 284=>228 | 285=>229 | 286=>230 | 129=>141 | 317=>240 | 318=>241 | 319=>242 | 320=>243 | 337=>251 | 338=>252 | n=>n,fun | 3=>3 | 9=>9 | 2=>2 | 4=>4 | 171=>224 | 0=>0 | 53=>149 | 37=>22 | 5=>5 | 173=>226 | 212=>234 | 51=>147 | 20=>20 | 213=>235 | 46=>128 | 232=>238 | 233=>239 | n=>n,fun | 17=>3 | 18=>4 | 19=>5 | n=>n⟩
theorem Tryz.laysM171:Go.Proofs.LaysM.n171 Ga Tryz.laysM171_ren:={
 mixed:=by kernel_rfl
 f129:=Tryz.func141.trans (congrArg some (by kernel_rfl))
 f171:=Tryz.func172.trans (congrArg some (by kernel_rfl))
 f243:=Tryz.func193.trans (congrArg some (by kernel_rfl))
 f246:=Tryz.func212.trans (congrArg some (by kernel_rfl))
 f283:=Tryz.func227.trans (congrArg some (by kernel_rfl))
 f284:=Tryz.func228.trans (congrArg some (by kernel_rfl))
 f285:=Tryz.func229.trans (congrArg some (by kernel_rfl))
 f286:=Tryz.func230.trans (congrArg some (by kernel_rfl))
 f317:=Tryz.func240.trans (congrArg some (by kernel_rfl))
 f318:=Tryz.func241.trans (congrArg some (by kernel_rfl))
 f319:=Tryz.func242.trans (congrArg some (by kernel_rfl))
 f320:=Tryz.func243.trans (congrArg some (by kernel_rfl))
 f337:=Tryz.func251.trans (congrArg some (by kernel_rfl))
 f338:=Tryz.func252.trans (congrArg some (by kernel_rfl))
 t0:=Tryz.underlying0
 a0:=Tryz.isAgg0
 z0:=Tryz.sizeOf0
 v0:=Tryz.zeroValue0
 t2:=Tryz.underlying2
 a2:=Tryz.isAgg2
 z2:=Tryz.sizeOf2
 v2:=Tryz.zeroValue2
 t3:=Tryz.underlying3
 a3:=Tryz.isAgg3
 z3:=Tryz.sizeOf3
 v3:=Tryz.zeroValue3
 t4:=Tryz.underlying4
 a4:=Tryz.isAgg4
 z4:=Tryz.sizeOf4
 v4:=Tryz.zeroValue4
 t5:=Tryz.underlying5
 a5:=Tryz.isAgg5
 z5:=Tryz.sizeOf5
 v5:=Tryz.zeroValue5
 t9:=Tryz.underlying9
 a9:=Tryz.isAgg9
 z9:=Tryz.sizeOf9
 v9:=Tryz.zeroValue9
 t20:=Tryz.underlying20
 a20:=Tryz.isAgg20
 z20:=Tryz.sizeOf20
 v20:=Tryz.zeroValue20
 t37:=Tryz.underlying22
 a37:=Tryz.isAgg22
 z37:=Tryz.sizeOf22
 v37:=Tryz.zeroValue22
 t46:=Tryz.underlying128
 a46:=Tryz.isAgg128
 z46:=Tryz.sizeOf128
 v46:=Tryz.zeroValue128
 t51:=Tryz.underlying147
 a51:=Tryz.isAgg147
 z51:=Tryz.sizeOf147
 v51:=Tryz.zeroValue147
 t53:=Tryz.underlying149
 a53:=Tryz.isAgg149
 z53:=Tryz.sizeOf149
 v53:=Tryz.zeroValue149
 t171:=Tryz.underlying224
 a171:=Tryz.isAgg224
 z171:=Tryz.sizeOf224
 v171:=Tryz.zeroValue224
 t173:=Tryz.underlying226
 a173:=Tryz.isAgg226
 z173:=Tryz.sizeOf226
 v173:=Tryz.zeroValue226
 t212:=Tryz.underlying234
 a212:=Tryz.isAgg234
 z212:=Tryz.sizeOf234
 v212:=Tryz.zeroValue234
 t213:=Tryz.underlying235
 a213:=Tryz.isAgg235
 z213:=Tryz.sizeOf235
 t232:=Tryz.underlying238
 a232:=Tryz.isAgg238
 z232:=Tryz.sizeOf238
 v232:=Tryz.zeroValue238
 t233:=Tryz.underlying239
 a233:=Tryz.isAgg239
 z233:=Tryz.sizeOf239
 v233:=Tryz.zeroValue239
 g17:=by kernel_rfl
 g18:=by kernel_rfl
 g19:=by kernel_rfl
 i0:=by kernel_rfl
 i2:=by kernel_rfl
 i3:=by kernel_rfl
 i4:=by kernel_rfl
 i5:=by kernel_rfl
 i9:=by kernel_rfl
 i20:=by kernel_rfl
 i37:=by kernel_rfl
 i46:=by kernel_rfl
 i51:=by kernel_rfl
 i53:=by kernel_rfl
 i171:=by kernel_rfl
 i173:=by kernel_rfl
 i212:=by kernel_rfl
 i232:=by kernel_rfl
 i233:=by kernel_rfl
 m17:=by kernel_rfl
 m18:=by kernel_rfl
 m19:=by kernel_rfl }
open Go.RowKit Go.Sort Go.Lib in
theorem Tryz.strconv_Itoa (n:Int) (h0 : -9223372036854775808≤n) (h1:n≤9223372036854775807) (w:World) (htab:Lib.TabIs Ga w "internal/strconv.uint64pow10" .u64 Lib.pow10Tab) :
  Calls Ga 172 #[.int .i64 n] w fun e w'=>e=.returned (.string ⟨(Lib.itoa n).toArray⟩)∧∃ k os,w'=grow (w.drewN k) os:=Any.strconv_Itoa Tryz.laysM171 n h0 h1 w htab
def Tryz.laysC172_ren:Go.Shelf.Ren:=⟨fun | 172=>171 | 244=>191 | 245=>192 | 247=>207 | 279=>208 | 280=>209 | 281=>210 | 282=>211 | 287=>224 | 316=>225 | 171=>172 | 205=>226 | 321=>238 | 322=>239 | 243=>193 | 246=>212 | 283=>227 | 284=>228 | 285=>229 | 286=>230 | 129=>141 | 317=>240 | 318=>241 | 319=>242 | 320=>243 | 337=>251 | 338=>252 | n=>n,fun | 9=>9 | 3=>3 | 75=>169 | 76=>170 | 4=>4 | 5=>5 | 167=>207 | 37=>22 | 0=>0 | 85=>208 | 2=>2 | 168=>210 | 53=>149 | 175=>219 | 46=>128 | 210=>222 | 127=>216 | 145=>232 | 143=>230 | 21=>21 | 171=>224 | 173=>226 | 212=>234 | 51=>147 | 20=>20 | 213=>235 | 232=>238 | 233=>239 | 80=>117 | n=>n,fun | 15=>0 | 16=>1 | 17=>3 | 18=>4 | 19=>5 | n=>n⟩
theorem Tryz.laysC172:Go.Proofs.LaysC.n172 Ga Tryz.laysC172_ren:={
 mixed:=by kernel_rfl
 f129:=Tryz.func141.trans (congrArg some (by kernel_rfl))
 f171:=Tryz.func172.trans (congrArg some (by kernel_rfl))
 f172:=Tryz.func171.trans (congrArg some (by kernel_rfl))
 f205:=Tryz.func226.trans (congrArg some (by kernel_rfl))
 f243:=Tryz.func193.trans (congrArg some (by kernel_rfl))
 f244:=Tryz.func191.trans (congrArg some (by kernel_rfl))
 f245:=Tryz.func192.trans (congrArg some (by kernel_rfl))
 f246:=Tryz.func212.trans (congrArg some (by kernel_rfl))
 f247:=Tryz.func207.trans (congrArg some (by kernel_rfl))
 f279:=Tryz.func208.trans (congrArg some (by kernel_rfl))
 f280:=Tryz.func209.trans (congrArg some (by kernel_rfl))
 f281:=Tryz.func210.trans (congrArg some (by kernel_rfl))
 f282:=Tryz.func211.trans (congrArg some (by kernel_rfl))
 f283:=Tryz.func227.trans (congrArg some (by kernel_rfl))
 f284:=Tryz.func228.trans (congrArg some (by kernel_rfl))
 f285:=Tryz.func229.trans (congrArg some (by kernel_rfl))
 f286:=Tryz.func230.trans (congrArg some (by kernel_rfl))
 f287:=Tryz.func224.trans (congrArg some (by kernel_rfl))
 f316:=Tryz.func225.trans (congrArg some (by kernel_rfl))
 f317:=Tryz.func240.trans (congrArg some (by kernel_rfl))
 f318:=Tryz.func241.trans (congrArg some (by kernel_rfl))
 f319:=Tryz.func242.trans (congrArg some (by kernel_rfl))
 f320:=Tryz.func243.trans (congrArg some (by kernel_rfl))
 f321:=Tryz.func238.trans (congrArg some (by kernel_rfl))
 f322:=Tryz.func239.trans (congrArg some (by kernel_rfl))
 f337:=Tryz.func251.trans (congrArg some (by kernel_rfl))
 f338:=Tryz.func252.trans (congrArg some (by kernel_rfl))
 t0:=Tryz.underlying0
 a0:=Tryz.isAgg0
 z0:=Tryz.sizeOf0
 v0:=Tryz.zeroValue0
 t2:=Tryz.underlying2
 a2:=Tryz.isAgg2
 z2:=Tryz.sizeOf2
 v2:=Tryz.zeroValue2
 t3:=Tryz.underlying3
 a3:=Tryz.isAgg3
 z3:=Tryz.sizeOf3
 v3:=Tryz.zeroValue3
 t4:=Tryz.underlying4
 a4:=Tryz.isAgg4
 z4:=Tryz.sizeOf4
 v4:=Tryz.zeroValue4
 t5:=Tryz.underlying5
 a5:=Tryz.isAgg5
 z5:=Tryz.sizeOf5
 v5:=Tryz.zeroValue5
 t9:=Tryz.underlying9
 a9:=Tryz.isAgg9
 z9:=Tryz.sizeOf9
 v9:=Tryz.zeroValue9
 t20:=Tryz.underlying20
 a20:=Tryz.isAgg20
 z20:=Tryz.sizeOf20
 v20:=Tryz.zeroValue20
 t21:=Tryz.underlying21
 a21:=Tryz.isAgg21
 z21:=Tryz.sizeOf21
 v21:=Tryz.zeroValue21
 t37:=Tryz.underlying22
 a37:=Tryz.isAgg22
 z37:=Tryz.sizeOf22
 v37:=Tryz.zeroValue22
 t46:=Tryz.underlying128
 a46:=Tryz.isAgg128
 z46:=Tryz.sizeOf128
 v46:=Tryz.zeroValue128
 t51:=Tryz.underlying147
 a51:=Tryz.isAgg147
 z51:=Tryz.sizeOf147
 v51:=Tryz.zeroValue147
 t53:=Tryz.underlying149
 a53:=Tryz.isAgg149
 z53:=Tryz.sizeOf149
 v53:=Tryz.zeroValue149
 t75:=Tryz.underlying169
 a75:=Tryz.isAgg169
 z75:=Tryz.sizeOf169
 v75:=Tryz.zeroValue169
 t76:=Tryz.underlying170
 a76:=Tryz.isAgg170
 z76:=Tryz.sizeOf170
 v76:=Tryz.zeroValue170
 t85:=Tryz.underlying208
 a85:=Tryz.isAgg208
 z85:=Tryz.sizeOf208
 v85:=Tryz.zeroValue208
 t127:=Tryz.underlying216
 a127:=Tryz.isAgg216
 z127:=Tryz.sizeOf216
 v127:=Tryz.zeroValue216
 t143:=Tryz.underlying230
 a143:=Tryz.isAgg230
 z143:=Tryz.sizeOf230
 v143:=Tryz.zeroValue230
 t145:=Tryz.underlying232
 a145:=Tryz.isAgg232
 z145:=Tryz.sizeOf232
 v145:=Tryz.zeroValue232
 t167:=Tryz.underlying207
 a167:=Tryz.isAgg207
 z167:=Tryz.sizeOf207
 v167:=Tryz.zeroValue207
 t168:=Tryz.underlying210
 a168:=Tryz.isAgg210
 z168:=Tryz.sizeOf210
 v168:=Tryz.zeroValue210
 t171:=Tryz.underlying224
 a171:=Tryz.isAgg224
 z171:=Tryz.sizeOf224
 v171:=Tryz.zeroValue224
 t173:=Tryz.underlying226
 a173:=Tryz.isAgg226
 z173:=Tryz.sizeOf226
 v173:=Tryz.zeroValue226
 t175:=Tryz.underlying219
 a175:=Tryz.isAgg219
 z175:=Tryz.sizeOf219
 v175:=Tryz.zeroValue219
 t210:=Tryz.underlying222
 a210:=Tryz.isAgg222
 z210:=Tryz.sizeOf222
 v210:=Tryz.zeroValue222
 t212:=Tryz.underlying234
 a212:=Tryz.isAgg234
 z212:=Tryz.sizeOf234
 v212:=Tryz.zeroValue234
 t213:=Tryz.underlying235
 a213:=Tryz.isAgg235
 z213:=Tryz.sizeOf235
 t232:=Tryz.underlying238
 a232:=Tryz.isAgg238
 z232:=Tryz.sizeOf238
 v232:=Tryz.zeroValue238
 t233:=Tryz.underlying239
 a233:=Tryz.isAgg239
 z233:=Tryz.sizeOf239
 v233:=Tryz.zeroValue239
 g15:=by kernel_rfl
 g16:=by kernel_rfl
 g17:=by kernel_rfl
 g18:=by kernel_rfl
 g19:=by kernel_rfl
 t80:=Tryz.underlying117
 a80:=Tryz.isAgg117
 z80:=Tryz.sizeOf117
 v80:=Tryz.zeroValue117
 i0:=by kernel_rfl
 i2:=by kernel_rfl
 i3:=by kernel_rfl
 i4:=by kernel_rfl
 i5:=by kernel_rfl
 i9:=by kernel_rfl
 i20:=by kernel_rfl
 i21:=by kernel_rfl
 i37:=by kernel_rfl
 i46:=by kernel_rfl
 i51:=by kernel_rfl
 i53:=by kernel_rfl
 i75:=by kernel_rfl
 i76:=by kernel_rfl
 i80:=by kernel_rfl
 i85:=by kernel_rfl
 i127:=by kernel_rfl
 i143:=by kernel_rfl
 i145:=by kernel_rfl
 i167:=by kernel_rfl
 i168:=by kernel_rfl
 i171:=by kernel_rfl
 i173:=by kernel_rfl
 i175:=by kernel_rfl
 i210:=by kernel_rfl
 i212:=by kernel_rfl
 i232:=by kernel_rfl
 i233:=by kernel_rfl
 m15:=by kernel_rfl
 m16:=by kernel_rfl
 m17:=by kernel_rfl
 m18:=by kernel_rfl
 m19:=by kernel_rfl
 c0:=by kernel_rfl
 c2:=by kernel_rfl
 c3:=by kernel_rfl
 c4:=by kernel_rfl
 c5:=by kernel_rfl
 c9:=by kernel_rfl
 c20:=by kernel_rfl
 c21:=by kernel_rfl
 c37:=by kernel_rfl
 c46:=by kernel_rfl
 c51:=by kernel_rfl
 c53:=by kernel_rfl
 c75:=by kernel_rfl
 c76:=by kernel_rfl
 c80:=by kernel_rfl
 c85:=by kernel_rfl
 c127:=by kernel_rfl
 c143:=by kernel_rfl
 c145:=by kernel_rfl
 c167:=by kernel_rfl
 c168:=by kernel_rfl
 c171:=by kernel_rfl
 c173:=by kernel_rfl
 c175:=by kernel_rfl
 c210:=by kernel_rfl
 c212:=by kernel_rfl
 c213:=by kernel_rfl
 c232:=by kernel_rfl
 c233:=by kernel_rfl }
open Go.RowKit in
theorem Tryz.strconv_Atoi_ok (s:ByteArray) (hmax:s.size≤9223372036854775806) (v:Int) (h:Lib.atoiAll s.data.toList=.ok v) (w:World) :
  Calls Ga 171 #[.string s] w fun e w'=>e=.returned (.tuple #[.int .i64 v,.nilIface])∧(w'=w∨∃ t,w'=Lib.bytesWorld w 5 t):=Any.strconv_Atoi_ok Tryz.laysC172 s hmax v h w
open Go.RowKit in
theorem Tryz.strconv_Atoi_range (s:ByteArray) (hlim:s.size≤281474976710656) (h:Lib.atoiAll s.data.toList=.range) (ev:Value) (w:World) (hv:w.cell? ⟨1,0,none⟩=some ev) (hev:ev=.nilIface∨∃ te pe,ev=.iface te pe) :
  Calls Ga 171 #[.string s] w fun e w'=>∃ N,e=.returned (.tuple #[.int .i64 (Lib.atoiSat s.data.toList),.iface 210 (.pointer (some ⟨N,0,none⟩))])∧w.heap.size≤N∧w'.heap[N]? = some (.cells #[.string ⟨#[65,116,111,105]⟩,.string s,ev] 222 (0,0))∧Below w.heap.size w w':=Any.strconv_Atoi_range Tryz.laysC172 s hlim h ev w hv hev
def Tryz.lays138_ren:Go.Shelf.Ren:=⟨fun | 138=>201 | 195=>221 | 218=>222 | 143=>223 | 219=>237 | 217=>247 | 225=>248 | 224=>249 | 267=>250 | 266=>254 | 314=>255 | n=>n,fun | 9=>9 | 3=>3 | 4=>4 | 5=>5 | 0=>0 | 46=>128 | 146=>183 | 51=>147 | n=>n,fun | 1=>2 | n=>n⟩
theorem Tryz.lays138:Go.Proofs.Lays.n138 Ga Tryz.lays138_ren:={
 mixed:=by kernel_rfl
 f138:=Tryz.func201.trans (congrArg some (by kernel_rfl))
 f143:=Tryz.func223.trans (congrArg some (by kernel_rfl))
 f195:=Tryz.func221.trans (congrArg some (by kernel_rfl))
 f217:=Tryz.func247.trans (congrArg some (by kernel_rfl))
 f218:=Tryz.func222.trans (congrArg some (by kernel_rfl))
 f219:=Tryz.func237.trans (congrArg some (by kernel_rfl))
 f224:=Tryz.func249.trans (congrArg some (by kernel_rfl))
 f225:=Tryz.func248.trans (congrArg some (by kernel_rfl))
 f266:=Tryz.func254.trans (congrArg some (by kernel_rfl))
 f267:=Tryz.func250.trans (congrArg some (by kernel_rfl))
 f314:=Tryz.func255.trans (congrArg some (by kernel_rfl))
 t0:=Tryz.underlying0
 a0:=Tryz.isAgg0
 z0:=Tryz.sizeOf0
 v0:=Tryz.zeroValue0
 t3:=Tryz.underlying3
 a3:=Tryz.isAgg3
 z3:=Tryz.sizeOf3
 v3:=Tryz.zeroValue3
 t4:=Tryz.underlying4
 a4:=Tryz.isAgg4
 z4:=Tryz.sizeOf4
 v4:=Tryz.zeroValue4
 t5:=Tryz.underlying5
 a5:=Tryz.isAgg5
 z5:=Tryz.sizeOf5
 v5:=Tryz.zeroValue5
 t9:=Tryz.underlying9
 a9:=Tryz.isAgg9
 z9:=Tryz.sizeOf9
 v9:=Tryz.zeroValue9
 t46:=Tryz.underlying128
 a46:=Tryz.isAgg128
 z46:=Tryz.sizeOf128
 v46:=Tryz.zeroValue128
 t51:=Tryz.underlying147
 a51:=Tryz.isAgg147
 z51:=Tryz.sizeOf147
 v51:=Tryz.zeroValue147
 t146:=Tryz.underlying183
 a146:=Tryz.isAgg183
 z146:=Tryz.sizeOf183
 v146:=Tryz.zeroValue183
 g1:=by kernel_rfl }
open Go.RowKit Go.Lib in
theorem Tryz.strings_Count_one (s:ByteArray) (c:UInt8) (w:World) :
  Calls Ga 201 #[.string s,.string ⟨#[c]⟩] w fun e w'=>e=.returned (.int .i64 (Lib.countByte s.data.toList c))∧w'=w:=Any.strings_Count_one Tryz.lays138 s c w
def Tryz.lays105_ren:Go.Shelf.Ren:=⟨fun | 105=>200 | 212=>157 | 99=>151 | 165=>218 | 166=>219 | 170=>220 | 169=>198 | 263=>186 | 264=>187 | 206=>173 | 240=>217 | 241=>236 | 276=>235 | 277=>246 | n=>n,fun | 9=>9 | 3=>3 | 4=>4 | 20=>20 | 0=>0 | 46=>128 | 109=>155 | 5=>5 | 72=>197 | 76=>170 | 51=>147 | 146=>183 | 53=>149 | 148=>185 | 70=>195 | 37=>22 | 75=>169 | 127=>216 | 164=>228 | 80=>117 | n=>n,fun | n=>n⟩
theorem Tryz.lays105:Go.Proofs.Lays.n105 Ga Tryz.lays105_ren:={
 mixed:=by kernel_rfl
 f99:=Tryz.func151.trans (congrArg some (by kernel_rfl))
 f105:=Tryz.func200.trans (congrArg some (by kernel_rfl))
 f165:=Tryz.func218.trans (congrArg some (by kernel_rfl))
 f166:=Tryz.func219.trans (congrArg some (by kernel_rfl))
 f169:=Tryz.func198.trans (congrArg some (by kernel_rfl))
 f170:=Tryz.func220.trans (congrArg some (by kernel_rfl))
 f206:=Tryz.func173.trans (congrArg some (by kernel_rfl))
 f212:=Tryz.func157.trans (congrArg some (by kernel_rfl))
 f240:=Tryz.func217.trans (congrArg some (by kernel_rfl))
 f241:=Tryz.func236.trans (congrArg some (by kernel_rfl))
 f263:=Tryz.func186.trans (congrArg some (by kernel_rfl))
 f264:=Tryz.func187.trans (congrArg some (by kernel_rfl))
 f276:=Tryz.func235.trans (congrArg some (by kernel_rfl))
 f277:=Tryz.func246.trans (congrArg some (by kernel_rfl))
 t0:=Tryz.underlying0
 a0:=Tryz.isAgg0
 z0:=Tryz.sizeOf0
 v0:=Tryz.zeroValue0
 t3:=Tryz.underlying3
 a3:=Tryz.isAgg3
 z3:=Tryz.sizeOf3
 v3:=Tryz.zeroValue3
 t4:=Tryz.underlying4
 a4:=Tryz.isAgg4
 z4:=Tryz.sizeOf4
 v4:=Tryz.zeroValue4
 t5:=Tryz.underlying5
 a5:=Tryz.isAgg5
 z5:=Tryz.sizeOf5
 v5:=Tryz.zeroValue5
 t9:=Tryz.underlying9
 a9:=Tryz.isAgg9
 z9:=Tryz.sizeOf9
 v9:=Tryz.zeroValue9
 t20:=Tryz.underlying20
 a20:=Tryz.isAgg20
 z20:=Tryz.sizeOf20
 v20:=Tryz.zeroValue20
 t37:=Tryz.underlying22
 a37:=Tryz.isAgg22
 z37:=Tryz.sizeOf22
 v37:=Tryz.zeroValue22
 t46:=Tryz.underlying128
 a46:=Tryz.isAgg128
 z46:=Tryz.sizeOf128
 v46:=Tryz.zeroValue128
 t51:=Tryz.underlying147
 a51:=Tryz.isAgg147
 z51:=Tryz.sizeOf147
 v51:=Tryz.zeroValue147
 t53:=Tryz.underlying149
 a53:=Tryz.isAgg149
 z53:=Tryz.sizeOf149
 v53:=Tryz.zeroValue149
 t70:=Tryz.underlying195
 a70:=Tryz.isAgg195
 z70:=Tryz.sizeOf195
 v70:=Tryz.zeroValue195
 t72:=Tryz.underlying197
 a72:=Tryz.isAgg197
 z72:=Tryz.sizeOf197
 v72:=Tryz.zeroValue197
 t75:=Tryz.underlying169
 a75:=Tryz.isAgg169
 z75:=Tryz.sizeOf169
 v75:=Tryz.zeroValue169
 t76:=Tryz.underlying170
 a76:=Tryz.isAgg170
 z76:=Tryz.sizeOf170
 v76:=Tryz.zeroValue170
 t109:=Tryz.underlying155
 a109:=Tryz.isAgg155
 z109:=Tryz.sizeOf155
 v109:=Tryz.zeroValue155
 t127:=Tryz.underlying216
 a127:=Tryz.isAgg216
 z127:=Tryz.sizeOf216
 v127:=Tryz.zeroValue216
 t146:=Tryz.underlying183
 a146:=Tryz.isAgg183
 z146:=Tryz.sizeOf183
 v146:=Tryz.zeroValue183
 t148:=Tryz.underlying185
 a148:=Tryz.isAgg185
 z148:=Tryz.sizeOf185
 v148:=Tryz.zeroValue185
 t164:=Tryz.underlying228
 a164:=Tryz.isAgg228
 z164:=Tryz.sizeOf228
 v164:=Tryz.zeroValue228 }
theorem Tryz.Builder_Extra_105:Builder.Extra Ga Tryz.lays105_ren:={
 sizeBuilder:=by kernel_rfl
 liesBuilder:=by kernel_rfl
 t5:=Tryz.underlying5
 a5:=Tryz.isAgg5
 z5:=Tryz.sizeOf5
 v5:=Tryz.zeroValue5
 infoByte:=by kernel_rfl
 cellsByte:=by kernel_rfl
 sizeByte:=by kernel_rfl
 neB5:=by decide }
open Go.RowKit Go.Lib in
theorem Tryz.strings_Repeat (s:ByteArray) (c:Nat) (w:World) (hc:c≤9223372036854775807) (hlen:s.size*c≤140737488355328) :
  Calls Ga 200 #[.string s,.int .i64 c] w fun e w'=>e=.returned (.string ⟨(Lib.repeatL s.data.toList c).toArray⟩)∧Below w.heap.size w w':=Any.strings_Repeat Tryz.lays105 Tryz.Builder_Extra_105 s c w hc hlen
end
section
def Tryz.lays189_ren:Go.Shelf.Ren:=⟨fun | 189=>56 | 125=>103 | 257=>102 | 128=>140 | 129=>141 | 294=>131 | 295=>132 | 296=>133 | 297=>134 | 298=>135 | 299=>136 | 216=>137 | 300=>138 | 301=>139 | 328=>162 | 329=>163 | 330=>164 | 331=>165 | 332=>166 | 215=>167 | 343=>189 | n=>n,fun | 28=>26 | 3=>3 | 46=>128 | 0=>0 | 51=>147 | 53=>149 | 4=>4 | 183=>141 | 182=>140 | 131=>79 | 5=>5 | 9=>9 | 218=>158 | 222=>162 | 228=>187 | 229=>188 | n=>n,fun | n=>n⟩
theorem Tryz.lays189:Go.Proofs.Lays.n189 Ga Tryz.lays189_ren:={
 mixed:=by kernel_rfl
 f125:=Tryz.func103.trans (congrArg some (by kernel_rfl))
 f128:=Tryz.func140.trans (congrArg some (by kernel_rfl))
 f129:=Tryz.func141.trans (congrArg some (by kernel_rfl))
 f189:=Tryz.func56.trans (congrArg some (by kernel_rfl))
 f215:=Tryz.func167.trans (congrArg some (by kernel_rfl))
 f216:=Tryz.func137.trans (congrArg some (by kernel_rfl))
 f257:=Tryz.func102.trans (congrArg some (by kernel_rfl))
 f294:=Tryz.func131.trans (congrArg some (by kernel_rfl))
 f295:=Tryz.func132.trans (congrArg some (by kernel_rfl))
 f296:=Tryz.func133.trans (congrArg some (by kernel_rfl))
 f297:=Tryz.func134.trans (congrArg some (by kernel_rfl))
 f298:=Tryz.func135.trans (congrArg some (by kernel_rfl))
 f299:=Tryz.func136.trans (congrArg some (by kernel_rfl))
 f300:=Tryz.func138.trans (congrArg some (by kernel_rfl))
 f301:=Tryz.func139.trans (congrArg some (by kernel_rfl))
 f328:=Tryz.func162.trans (congrArg some (by kernel_rfl))
 f329:=Tryz.func163.trans (congrArg some (by kernel_rfl))
 f330:=Tryz.func164.trans (congrArg some (by kernel_rfl))
 f331:=Tryz.func165.trans (congrArg some (by kernel_rfl))
 f332:=Tryz.func166.trans (congrArg some (by kernel_rfl))
 f343:=Tryz.func189.trans (congrArg some (by kernel_rfl))
 t0:=Tryz.underlying0
 a0:=Tryz.isAgg0
 z0:=Tryz.sizeOf0
 v0:=Tryz.zeroValue0
 t3:=Tryz.underlying3
 a3:=Tryz.isAgg3
 z3:=Tryz.sizeOf3
 v3:=Tryz.zeroValue3
 t4:=Tryz.underlying4
 a4:=Tryz.isAgg4
 z4:=Tryz.sizeOf4
 v4:=Tryz.zeroValue4
 t5:=Tryz.underlying5
 a5:=Tryz.isAgg5
 z5:=Tryz.sizeOf5
 v5:=Tryz.zeroValue5
 t9:=Tryz.underlying9
 a9:=Tryz.isAgg9
 z9:=Tryz.sizeOf9
 v9:=Tryz.zeroValue9
 t28:=Tryz.underlying26
 a28:=Tryz.isAgg26
 z28:=Tryz.sizeOf26
 v28:=Tryz.zeroValue26
 t46:=Tryz.underlying128
 a46:=Tryz.isAgg128
 z46:=Tryz.sizeOf128
 v46:=Tryz.zeroValue128
 t51:=Tryz.underlying147
 a51:=Tryz.isAgg147
 z51:=Tryz.sizeOf147
 v51:=Tryz.zeroValue147
 t53:=Tryz.underlying149
 a53:=Tryz.isAgg149
 z53:=Tryz.sizeOf149
 v53:=Tryz.zeroValue149
 t131:=Tryz.underlying79
 a131:=Tryz.isAgg79
 z131:=Tryz.sizeOf79
 v131:=Tryz.zeroValue79
 t182:=Tryz.underlying140
 a182:=Tryz.isAgg140
 z182:=Tryz.sizeOf140
 v182:=Tryz.zeroValue140
 t183:=Tryz.underlying141
 a183:=Tryz.isAgg141
 z183:=Tryz.sizeOf141
 v183:=Tryz.zeroValue141
 t218:=Tryz.underlying158
 a218:=Tryz.isAgg158
 z218:=Tryz.sizeOf158
 v218:=Tryz.zeroValue158
 t222:=Tryz.underlying162
 a222:=Tryz.isAgg162
 z222:=Tryz.sizeOf162
 v222:=Tryz.zeroValue162
 t228:=Tryz.underlying187
 a228:=Tryz.isAgg187
 z228:=Tryz.sizeOf187
 v228:=Tryz.zeroValue187
 t229:=Tryz.underlying188
 a229:=Tryz.isAgg188
 z229:=Tryz.sizeOf188
 v229:=Tryz.zeroValue188 }
open Go.Sort Go.RowKit in
theorem Tryz.slices_Sort_int (blk off cap:Nat) (zs:List Int) (w:World) (hH:Holds (Value.int .i64) w blk off zs.toArray) (hblk:blk < w.heap.size) (hsz:zs.length < 4611686018427387904) :
  Calls Ga 56 #[.slice (some ⟨blk,off,none⟩) zs.length cap] w fun e w'=>
   e=.returned (.tuple #[])∧∃ n os,w'=grow (putRow (Value.int .i64) (Sort.ahead w n) blk off (zs.mergeSort fun x y=>decide (x≤y)).toArray) os:=Any.slices_Sort_int Tryz.lays189 blk off cap zs w hH hblk hsz
def Tryz.lays212_ren:Go.Shelf.Ren:=⟨fun | 212=>157 | 263=>186 | 264=>187 | n=>n,fun | 46=>128 | 51=>147 | 146=>183 | 53=>149 | 148=>185 | n=>n,fun | n=>n⟩
theorem Tryz.lays212:Go.Proofs.Lays.n212 Ga Tryz.lays212_ren:={
 mixed:=by kernel_rfl
 f212:=Tryz.func157.trans (congrArg some (by kernel_rfl))
 f263:=Tryz.func186.trans (congrArg some (by kernel_rfl))
 f264:=Tryz.func187.trans (congrArg some (by kernel_rfl))
 t46:=Tryz.underlying128
 a46:=Tryz.isAgg128
 z46:=Tryz.sizeOf128
 v46:=Tryz.zeroValue128
 t51:=Tryz.underlying147
 a51:=Tryz.isAgg147
 z51:=Tryz.sizeOf147
 v51:=Tryz.zeroValue147
 t53:=Tryz.underlying149
 a53:=Tryz.isAgg149
 z53:=Tryz.sizeOf149
 v53:=Tryz.zeroValue149
 t146:=Tryz.underlying183
 a146:=Tryz.isAgg183
 z146:=Tryz.sizeOf183
 v146:=Tryz.zeroValue183
 t148:=Tryz.underlying185
 a148:=Tryz.isAgg185
 z148:=Tryz.sizeOf185
 v148:=Tryz.zeroValue185 }
open Go.RowKit Go.Lib in
theorem Tryz.bits_Mul (x y:Nat) (hx:x < 18446744073709551616) (hy:y < 18446744073709551616) (w:World) :
  Calls Ga 157 #[.int .u64 x,.int .u64 y] w fun e w'=>e=.returned (.tuple #[.int .u64 ((x*y / 18446744073709551616:Nat):Int),.int .u64 ((x*y % 18446744073709551616:Nat):Int)])∧w'=w:=Any.bits_Mul Tryz.lays212 x y hx hy w
def Tryz.laysNm220_ren:Go.Shelf.Ren:=⟨fun | 20=>57 | n=>n,fun | 22=>26 | 3=>3 | 4=>4 | 0=>0 | n=>n,fun | n=>n⟩
theorem Tryz.laysNm220:Go.Proofs.Lays2.n20 Ga Tryz.laysNm220_ren:={
 mixed:=by kernel_rfl
 f20:=Tryz.func57.trans (congrArg some (by kernel_rfl))
 t0:=Tryz.underlying0
 a0:=Tryz.isAgg0
 z0:=Tryz.sizeOf0
 v0:=Tryz.zeroValue0
 t3:=Tryz.underlying3
 a3:=Tryz.isAgg3
 z3:=Tryz.sizeOf3
 v3:=Tryz.zeroValue3
 t4:=Tryz.underlying4
 a4:=Tryz.isAgg4
 z4:=Tryz.sizeOf4
 v4:=Tryz.zeroValue4
 t22:=Tryz.underlying26
 a22:=Tryz.isAgg26
 z22:=Tryz.sizeOf26
 v22:=Tryz.zeroValue26
 i3:=by kernel_rfl }
open Go.RowKit Go.Lib Go.Sort in
theorem Tryz.slices_Compact_int (blk off cap:Nat) (zs:List Int) (w:World) (hH:Holds (Value.int .i64) w blk off zs.toArray) (hsz:zs.length≤9223372036854775807) (hcap:zs.length≤cap) :
  Calls Ga 57 #[.slice (some ⟨blk,off,none⟩) zs.length cap] w fun e w'=>e=.returned (.slice (some ⟨blk,off,none⟩) (Lib.compact zs).length cap)∧∃ q,w'=putRow (Value.int .i64) (Sort.ahead w q) blk off (Lib.compact zs++List.replicate (zs.length-(Lib.compact zs).length) 0).toArray:=Any.slices_Compact_int Tryz.laysNm220 blk off cap zs w hH hsz hcap
open Go.RowKit Go.Lib Go.Sort in
theorem Tryz.slices_Compact_int_empty (a:Option Addr) (cap:Nat) (w:World) :
  Calls Ga 57 #[.slice a 0 cap] w fun e w'=>e=.returned (.slice a 0 cap)∧w'=w:=Any.slices_Compact_int_empty Tryz.laysNm220 a cap w
def Tryz.laysNm223_ren:Go.Shelf.Ren:=⟨fun | 23=>82 | n=>n,fun | 22=>26 | 3=>3 | 4=>4 | 0=>0 | n=>n,fun | n=>n⟩
theorem Tryz.laysNm223:Go.Proofs.Lays2.n23 Ga Tryz.laysNm223_ren:={
 mixed:=by kernel_rfl
 f23:=Tryz.func82.trans (congrArg some (by kernel_rfl))
 t0:=Tryz.underlying0
 a0:=Tryz.isAgg0
 z0:=Tryz.sizeOf0
 v0:=Tryz.zeroValue0
 t3:=Tryz.underlying3
 a3:=Tryz.isAgg3
 z3:=Tryz.sizeOf3
 v3:=Tryz.zeroValue3
 t4:=Tryz.underlying4
 a4:=Tryz.isAgg4
 z4:=Tryz.sizeOf4
 v4:=Tryz.zeroValue4
 t22:=Tryz.underlying26
 a22:=Tryz.isAgg26
 z22:=Tryz.sizeOf26
 v22:=Tryz.zeroValue26
 i3:=by kernel_rfl }
open Go.RowKit Go.Sort in
theorem Tryz.slices_Sort_int_none (p:Option Addr) (cap:Nat) (w:World) :
  Calls Ga 56 #[.slice p 0 cap] w fun e w'=>e=.returned (.tuple #[])∧w'=w:=Any.slices_Sort_int_none Tryz.lays189 p cap w
end
end Go.Proofs
end
section
set_option maxHeartbeats 4000000
set_option maxRecDepth 1000000
open Go.Shelf Go.RowKit Go.Lib Go.Sort
namespace Go.Proofs
theorem delOne {P:Program}{ρ:Ren}(L:Lays2.n23 P ρ) (B o c i j:Nat) (hj1:j=i+1) (zs:List Int) (w:World) (hh:Holds encI w B o zs.toArray) (hc:zs.length≤c) (hi:i < zs.length) :
  Calls P (ρ.f 23) #[.slice (some ⟨B,o,none⟩) zs.length c,.int .i64 i,.int .i64 j] w fun e w'=>e=.returned (.slice (some ⟨B,o,none⟩) (zs.length-1) c)∧∃ q,w'=putRow encI (Sort.ahead w q) B o (zs.take i++zs.drop j++[0]).toArray:=by
 have t0:=L.t0; have a0:=L.a0; have z0:=L.z0; have v0:=L.v0
 have t3:=L.t3; have a3:=L.a3; have z3:=L.z3; have v3:=L.v3
 have t4:=L.t4; have a4:=L.a4; have z4:=L.z4; have v4:=L.v4
 have t22:=L.t22; have a22:=L.a22; have z22:=L.z22; have v22:=L.v22
 have mixed:=L.mixed
 obtain ⟨nf,n1,_,n3,_⟩:=info_parts L.i3
 generalize hd:zs.toArray=d at hh
 have hdl:d.size=zs.length:=by rw[← hd]; simp
 have hdt:d.toList=zs:=by rw[← hd]
 rw[← hdt]
 have hsz:d.toList.length=d.size:=by simp
 rw[hsz]
 rw[← hdl]at hc hi
 obtain ⟨mv,hmv⟩:∃ mv,mv=(d.toList.drop j).map encI:=⟨_,rfl⟩
 have ml:mv.length=d.size-j:=by rw[hmv]; simp
 have mg:∀ k,k < d.size-j→mv[k]? = some (encI d[j+k]!):=fun k hk=>by
  rw[hmv,List.getElem?_map,List.getElem?_drop,Array.getElem?_toList,getElem!_pos d (j+k) (by omega),Array.getElem?_eq_getElem (by omega)]
  rfl
 obtain ⟨A,hA,from_⟩:∃ A:Addr,(if c=j then some (⟨B,o,none⟩:Addr) else some ⟨B,o+j,none⟩)=some A∧Hid (∀ k u,mv[k]? = some u→w.drew.cell? (A.add k)=some u):=by
  by_cases h:c=j
  ·refine ⟨_,if_pos h,fun k u hu=>?_⟩
   have:mv=[]:=List.eq_nil_of_length_eq_zero (by rw[ml]; omega)
   rw[this]at hu; simp at hu
  ·refine ⟨_,if_neg h,fun k u hu=>?_⟩
   have hk:k < d.size-j:=by rw[← ml]; exact (List.getElem?_eq_some_iff.1 hu).1
   rw[mg k hk]at hu
   rw[Addr.add_lit,show o+j+k=o+(j+k) by omega]
   exact (hh (j+k) (by omega)).1.trans hu
 have q1:Hid (mv.length=(d.size-j)*1):=by rw[Nat.mul_one]; exact ml
 have q2:Hid (∀ u∈mv,u.oneCell'=true):=fun u hu=>by
  rw[hmv]at hu
  obtain ⟨x,_,rfl⟩:=List.mem_map.1 hu
  rfl
 have q3:Hid (∀ k,k < mv.length→(w.drew.cell? ⟨B,o+i*1+k,none⟩).isSome=true∧w.drew.frozen? ⟨B,o+i*1+k,none⟩=false):=fun k hk=>by
  rw[ml]at hk
  rw[Nat.mul_one,Nat.add_assoc]
  exact ⟨by show (w.cell? _).isSome=true; rw[(hh (i+k) (by omega)).1]; rfl,(hh (i+k) (by omega)).2⟩
 obtain ⟨V,hV⟩:∃ V,V=w.drew.setCells B (o+i*1) mv:=⟨_,rfl⟩
 have hV':V=putRow encI (Sort.ahead w 1) B o (lay d i (d.toList.drop j)):=by
  rw[hV,hmv,Nat.mul_one,← putRow_setCells encI (Sort.ahead w 1) B o _ d i (by simp; omega),putRow_self encI (Sort.ahead w 1) B o d (holds_ahead encI w 1 B o d hh)]
  rfl
 have hhV:Holds encI V B o (lay d i (d.toList.drop j)):=by rw[hV']; exact holds_putRow encI _ B o d _ (holds_ahead encI w 1 B o d hh) (lay_size _ _ _)
 have hcl:∀ ty,(Builtin.clear_ #[ρ.t 22] ty #[.slice (some ⟨B,o+(i+(d.size-j)),none⟩) (d.size-(i+(d.size-j))) (c-(i+(d.size-j)))]).run P V=.ok (.tuple #[]) (V.setCells B (o+(i+(d.size-j))) (List.replicate (d.size-(i+(d.size-j))) (encI 0))):=
  fun ty=>Lib.run_clear_slice V _ _ ty _ t22 v3 rfl rfl B (o+(i+(d.size-j))) _ _ (by omega) (fun k hk=>by rw[show o+(i+(d.size-j))+k=o+(i+(d.size-j)+k) by omega,(hhV _ (by rw[lay_size]; omega)).1]; rfl) (fun k hk=>by rw[show o+(i+(d.size-j))+k=o+(i+(d.size-j)+k) by omega]; exact (hhV _ (by rw[lay_size]; omega)).2)
 have X:Aside (V=putRow encI (Sort.ahead w 1) B o (lay d i (d.toList.drop j))):=hV'
 have Y:Hid (V=w.drew.setCells B (o+i*1) mv):=hV
 have r1:i≤c:=by omega
 have r2:j≤c:=by omega
 have r3:j≤d.size:=by omega
 have r4:¬ i=j:=by omega
 have hij:i < j:=by omega
 clear hV hV' hhV hh mg hmv ml hd hdl hdt hsz
 have hj2:Hid (j=i+1):=hj1
 clear hj1
 go_enter L.f23,Body2.n23_ntmps ρ
 go_wp2_with fail
 go_region_law_o (refine step_append_room rfl (.tmp 22) (.tmp 25) (ρ.t 22) rfl (ρ.t 3) nf 1 t22 n1 n3 B o i c (by simp[Act.eval,Act.put]) A (d.size-j) (c-j) mv (by simp[Act.eval,Act.put]) q1.out from_.out q2.out (by omega) q3.out ?_; rw[← Y.out])
 go_wp2
 go_ret
 have hj1:=hj2.out
 refine ⟨by rw[show d.size-1=i+(d.size-j) by omega]; rfl,1,?_⟩
 have e:=delete_arr d i j 0 (by omega) (by omega)
 rw[show j-i=1 by omega]at e
 rw[show ([0]:List Int)=List.replicate 1 0 from rfl,← e,← putRow_setCells encI _ B o _ _ (i+(d.size-j)) (by rw[lay_size]; simp; omega),← X.out,List.map_replicate,show d.size-(i+(d.size-j))=1 by omega]
end Go.Proofs
end
end
