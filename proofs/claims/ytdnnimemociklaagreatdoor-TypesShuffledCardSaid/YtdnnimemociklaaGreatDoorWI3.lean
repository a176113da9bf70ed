/-
  A part of the proof. Conditions: none.
-/
import Derived.Test.YtdnnimemociklaaGreatDoorWI1
import Derived.Test.YtdnnimemociklaaGreatDoorWI2
set_option linter.unusedSimpArgs false
set_option linter.unusedVariables false
open Go.Proofs.Tryz renaming prog->Ga
noncomputable section
section
set_option maxRecDepth 100000
open Go.Proofs
namespace Go.Cm
@[reducible] def mkIC{P:Go.Program}{f:Nat}(F:IFunc)(_:Jg P f=some F):IFunc:=F
def c178:IFunc:=mkIC (P:=Ga) (f:=178) _ (by unfold Jg;rw[Tryz.func178];conv=>lhs;cbv)
theorem c178_ok:Jg Ga 178=some c178:=vK
def c180:IFunc:=mkIC (P:=Ga) (f:=180) _ (by unfold Jg;rw[Tryz.func180];conv=>lhs;cbv)
theorem c180_ok:Jg Ga 180=some c180:=vK
def c181:IFunc:=mkIC (P:=Ga) (f:=181) _ (by unfold Jg;rw[Tryz.func181];conv=>lhs;cbv)
theorem c181_ok:Jg Ga 181=some c181:=vK
def c182:IFunc:=mkIC (P:=Ga) (f:=182) _ (by unfold Jg;rw[Tryz.func182];conv=>lhs;cbv)
theorem c182_ok:Jg Ga 182=some c182:=vK
def c183:IFunc:=mkIC (P:=Ga) (f:=183) _ (by unfold Jg;rw[Tryz.func183];conv=>lhs;cbv)
theorem c183_ok:Jg Ga 183=some c183:=vK
def c184:IFunc:=mkIC (P:=Ga) (f:=184) _ (by unfold Jg;rw[Tryz.func184];conv=>lhs;cbv)
theorem c184_ok:Jg Ga 184=some c184:=vK
def c185:IFunc:=mkIC (P:=Ga) (f:=185) _ (by unfold Jg;rw[Tryz.func185];conv=>lhs;cbv)
theorem c185_ok:Jg Ga 185=some c185:=vK
def c186:IFunc:=mkIC (P:=Ga) (f:=186) _ (by unfold Jg;rw[Tryz.func186];conv=>lhs;cbv)
theorem c186_ok:Jg Ga 186=some c186:=vK
def c187:IFunc:=mkIC (P:=Ga) (f:=187) _ (by unfold Jg;rw[Tryz.func187];conv=>lhs;cbv)
theorem c187_ok:Jg Ga 187=some c187:=vK
def c188:IFunc:=mkIC (P:=Ga) (f:=188) _ (by unfold Jg;rw[Tryz.func188];conv=>lhs;cbv)
theorem c188_ok:Jg Ga 188=some c188:=vK
def c189:IFunc:=mkIC (P:=Ga) (f:=189) _ (by unfold Jg;rw[Tryz.func189];conv=>lhs;cbv)
theorem c189_ok:Jg Ga 189=some c189:=vK
def c190:IFunc:=mkIC (P:=Ga) (f:=190) _ (by unfold Jg;rw[Tryz.func190];conv=>lhs;cbv)
theorem c190_ok:Jg Ga 190=some c190:=vK
def c191:IFunc:=mkIC (P:=Ga) (f:=191) _ (by unfold Jg;rw[Tryz.func191];conv=>lhs;cbv)
theorem c191_ok:Jg Ga 191=some c191:=vK
def c192:IFunc:=mkIC (P:=Ga) (f:=192) _ (by unfold Jg;rw[Tryz.func192];conv=>lhs;cbv)
theorem c192_ok:Jg Ga 192=some c192:=vK
def c194:IFunc:=mkIC (P:=Ga) (f:=194) _ (by unfold Jg;rw[Tryz.func194];conv=>lhs;cbv)
theorem c194_ok:Jg Ga 194=some c194:=vK
def c195:IFunc:=mkIC (P:=Ga) (f:=195) _ (by unfold Jg;rw[Tryz.func195];conv=>lhs;cbv)
theorem c195_ok:Jg Ga 195=some c195:=vK
def c196:IFunc:=mkIC (P:=Ga) (f:=196) _ (by unfold Jg;rw[Tryz.func196];conv=>lhs;cbv)
theorem c196_ok:Jg Ga 196=some c196:=vK
def c197:IFunc:=mkIC (P:=Ga) (f:=197) _ (by unfold Jg;rw[Tryz.func197];conv=>lhs;cbv)
theorem c197_ok:Jg Ga 197=some c197:=vK
def c198:IFunc:=mkIC (P:=Ga) (f:=198) _ (by unfold Jg;rw[Tryz.func198];conv=>lhs;cbv)
theorem c198_ok:Jg Ga 198=some c198:=vK
def c199:IFunc:=mkIC (P:=Ga) (f:=199) _ (by unfold Jg;rw[Tryz.func199];conv=>lhs;cbv)
theorem c199_ok:Jg Ga 199=some c199:=vK
def c200:IFunc:=mkIC (P:=Ga) (f:=200) _ (by unfold Jg;rw[Tryz.func200];conv=>lhs;cbv)
theorem c200_ok:Jg Ga 200=some c200:=vK
def c203:IFunc:=mkIC (P:=Ga) (f:=203) _ (by unfold Jg;rw[Tryz.func203];conv=>lhs;cbv)
theorem c203_ok:Jg Ga 203=some c203:=vK
def c206:IFunc:=mkIC (P:=Ga) (f:=206) _ (by unfold Jg;rw[Tryz.func206];conv=>lhs;cbv)
theorem c206_ok:Jg Ga 206=some c206:=vK
def c207:IFunc:=mkIC (P:=Ga) (f:=207) _ (by unfold Jg;rw[Tryz.func207];conv=>lhs;cbv)
theorem c207_ok:Jg Ga 207=some c207:=vK
def c208:IFunc:=mkIC (P:=Ga) (f:=208) _ (by unfold Jg;rw[Tryz.func208];conv=>lhs;cbv)
theorem c208_ok:Jg Ga 208=some c208:=vK
def c209:IFunc:=mkIC (P:=Ga) (f:=209) _ (by unfold Jg;rw[Tryz.func209];conv=>lhs;cbv)
theorem c209_ok:Jg Ga 209=some c209:=vK
def c210:IFunc:=mkIC (P:=Ga) (f:=210) _ (by unfold Jg;rw[Tryz.func210];conv=>lhs;cbv)
theorem c210_ok:Jg Ga 210=some c210:=vK
def c213:IFunc:=mkIC (P:=Ga) (f:=213) _ (by unfold Jg;rw[Tryz.func213];conv=>lhs;cbv)
theorem c213_ok:Jg Ga 213=some c213:=vK
def c216:IFunc:=mkIC (P:=Ga) (f:=216) _ (by unfold Jg;rw[Tryz.func216];conv=>lhs;cbv)
theorem c216_ok:Jg Ga 216=some c216:=vK
def c217:IFunc:=mkIC (P:=Ga) (f:=217) _ (by unfold Jg;rw[Tryz.func217];conv=>lhs;cbv)
theorem c217_ok:Jg Ga 217=some c217:=vK
def c218:IFunc:=mkIC (P:=Ga) (f:=218) _ (by unfold Jg;rw[Tryz.func218];conv=>lhs;cbv)
theorem c218_ok:Jg Ga 218=some c218:=vK
def c219:IFunc:=mkIC (P:=Ga) (f:=219) _ (by unfold Jg;rw[Tryz.func219];conv=>lhs;cbv)
theorem c219_ok:Jg Ga 219=some c219:=vK
def c231:IFunc:=mkIC (P:=Ga) (f:=231) _ (by unfold Jg;rw[Tryz.func231];conv=>lhs;cbv)
theorem c231_ok:Jg Ga 231=some c231:=vK
def c232:IFunc:=mkIC (P:=Ga) (f:=232) _ (by unfold Jg;rw[Tryz.func232];conv=>lhs;cbv)
theorem c232_ok:Jg Ga 232=some c232:=vK
def c234:IFunc:=mkIC (P:=Ga) (f:=234) _ (by unfold Jg;rw[Tryz.func234];conv=>lhs;cbv)
theorem c234_ok:Jg Ga 234=some c234:=vK
def c241:IFunc:=mkIC (P:=Ga) (f:=241) _ (by unfold Jg;rw[Tryz.func241];conv=>lhs;cbv)
theorem c241_ok:Jg Ga 241=some c241:=vK
def c248:IFunc:=mkIC (P:=Ga) (f:=248) _ (by unfold Jg;rw[Tryz.func248];conv=>lhs;cbv)
theorem c248_ok:Jg Ga 248=some c248:=vK
def c252:IFunc:=mkIC (P:=Ga) (f:=252) _ (by unfold Jg;rw[Tryz.func252];conv=>lhs;cbv)
theorem c252_ok:Jg Ga 252=some c252:=vK
def c253:IFunc:=mkIC (P:=Ga) (f:=253) _ (by unfold Jg;rw[Tryz.func253];conv=>lhs;cbv)
theorem c253_ok:Jg Ga 253=some c253:=vK
def c255:IFunc:=mkIC (P:=Ga) (f:=255) _ (by unfold Jg;rw[Tryz.func255];conv=>lhs;cbv)
theorem c255_ok:Jg Ga 255=some c255:=vK
def c256:IFunc:=mkIC (P:=Ga) (f:=256) _ (by unfold Jg;rw[Tryz.func256];conv=>lhs;cbv)
theorem c256_ok:Jg Ga 256=some c256:=vK
def c257:IFunc:=mkIC (P:=Ga) (f:=257) _ (by unfold Jg;rw[Tryz.func257];conv=>lhs;cbv)
theorem c257_ok:Jg Ga 257=some c257:=vK
def c258:IFunc:=mkIC (P:=Ga) (f:=258) _ (by unfold Jg;rw[Tryz.func258];conv=>lhs;cbv)
theorem c258_ok:Jg Ga 258=some c258:=vK
def c264:IFunc:=mkIC (P:=Ga) (f:=264) _ (by unfold Jg;rw[Tryz.func264];conv=>lhs;cbv)
theorem c264_ok:Jg Ga 264=some c264:=vK
def c265:IFunc:=mkIC (P:=Ga) (f:=265) _ (by unfold Jg;rw[Tryz.func265];conv=>lhs;cbv)
theorem c265_ok:Jg Ga 265=some c265:=vK
def c266:IFunc:=mkIC (P:=Ga) (f:=266) _ (by unfold Jg;rw[Tryz.func266];conv=>lhs;cbv)
theorem c266_ok:Jg Ga 266=some c266:=vK
def c267:IFunc:=mkIC (P:=Ga) (f:=267) _ (by unfold Jg;rw[Tryz.func267];conv=>lhs;cbv)
theorem c267_ok:Jg Ga 267=some c267:=vK
def c268:IFunc:=mkIC (P:=Ga) (f:=268) _ (by unfold Jg;rw[Tryz.func268];conv=>lhs;cbv)
theorem c268_ok:Jg Ga 268=some c268:=vK
def c270:IFunc:=mkIC (P:=Ga) (f:=270) _ (by unfold Jg;rw[Tryz.func270];conv=>lhs;cbv)
theorem c270_ok:Jg Ga 270=some c270:=vK
def c273:IFunc:=mkIC (P:=Ga) (f:=273) _ (by unfold Jg;rw[Tryz.func273];conv=>lhs;cbv)
theorem c273_ok:Jg Ga 273=some c273:=vK
def c274:IFunc:=mkIC (P:=Ga) (f:=274) _ (by unfold Jg;rw[Tryz.func274];conv=>lhs;cbv)
theorem c274_ok:Jg Ga 274=some c274:=vK
def c277:IFunc:=mkIC (P:=Ga) (f:=277) _ (by unfold Jg;rw[Tryz.func277];conv=>lhs;cbv)
theorem c277_ok:Jg Ga 277=some c277:=vK
def c278:IFunc:=mkIC (P:=Ga) (f:=278) _ (by unfold Jg;rw[Tryz.func278];conv=>lhs;cbv)
theorem c278_ok:Jg Ga 278=some c278:=vK
def c282:IFunc:=mkIC (P:=Ga) (f:=282) _ (by unfold Jg;rw[Tryz.func282];conv=>lhs;cbv)
theorem c282_ok:Jg Ga 282=some c282:=vK
end Go.Cm
end
end
