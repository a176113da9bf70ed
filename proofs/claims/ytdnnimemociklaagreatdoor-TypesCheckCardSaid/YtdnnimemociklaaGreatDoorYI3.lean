/-
  A part of the proof. Conditions: none.
-/
import Derived.Test.YtdnnimemociklaaGreatDoorYI1
import Derived.Test.YtdnnimemociklaaGreatDoorYI2
set_option linter.unusedSimpArgs false
set_option linter.unusedVariables false
open Go.Proofs.Tryz renaming prog->Ga
noncomputable section
section
set_option maxRecDepth 100000
open Go.Proofs
namespace Go.Cm
@[reducible] def mkIC{P:Go.Program}{f:Nat}(F:IFunc)(_:Jd P f=some F):IFunc:=F
def c178:IFunc:=mkIC (P:=Ga) (f:=178) _ (by unfold Jd;rw[Tryz.func178];conv=>lhs;cbv)
theorem c178_ok:Jd Ga 178=some c178:=kR
def c180:IFunc:=mkIC (P:=Ga) (f:=180) _ (by unfold Jd;rw[Tryz.func180];conv=>lhs;cbv)
theorem c180_ok:Jd Ga 180=some c180:=kR
def c181:IFunc:=mkIC (P:=Ga) (f:=181) _ (by unfold Jd;rw[Tryz.func181];conv=>lhs;cbv)
theorem c181_ok:Jd Ga 181=some c181:=kR
def c182:IFunc:=mkIC (P:=Ga) (f:=182) _ (by unfold Jd;rw[Tryz.func182];conv=>lhs;cbv)
theorem c182_ok:Jd Ga 182=some c182:=kR
def c183:IFunc:=mkIC (P:=Ga) (f:=183) _ (by unfold Jd;rw[Tryz.func183];conv=>lhs;cbv)
theorem c183_ok:Jd Ga 183=some c183:=kR
def c184:IFunc:=mkIC (P:=Ga) (f:=184) _ (by unfold Jd;rw[Tryz.func184];conv=>lhs;cbv)
theorem c184_ok:Jd Ga 184=some c184:=kR
def c185:IFunc:=mkIC (P:=Ga) (f:=185) _ (by unfold Jd;rw[Tryz.func185];conv=>lhs;cbv)
theorem c185_ok:Jd Ga 185=some c185:=kR
def c186:IFunc:=mkIC (P:=Ga) (f:=186) _ (by unfold Jd;rw[Tryz.func186];conv=>lhs;cbv)
theorem c186_ok:Jd Ga 186=some c186:=kR
def c187:IFunc:=mkIC (P:=Ga) (f:=187) _ (by unfold Jd;rw[Tryz.func187];conv=>lhs;cbv)
theorem c187_ok:Jd Ga 187=some c187:=kR
def c188:IFunc:=mkIC (P:=Ga) (f:=188) _ (by unfold Jd;rw[Tryz.func188];conv=>lhs;cbv)
theorem c188_ok:Jd Ga 188=some c188:=kR
def c189:IFunc:=mkIC (P:=Ga) (f:=189) _ (by unfold Jd;rw[Tryz.func189];conv=>lhs;cbv)
theorem c189_ok:Jd Ga 189=some c189:=kR
def c190:IFunc:=mkIC (P:=Ga) (f:=190) _ (by unfold Jd;rw[Tryz.func190];conv=>lhs;cbv)
theorem c190_ok:Jd Ga 190=some c190:=kR
def c191:IFunc:=mkIC (P:=Ga) (f:=191) _ (by unfold Jd;rw[Tryz.func191];conv=>lhs;cbv)
theorem c191_ok:Jd Ga 191=some c191:=kR
def c192:IFunc:=mkIC (P:=Ga) (f:=192) _ (by unfold Jd;rw[Tryz.func192];conv=>lhs;cbv)
theorem c192_ok:Jd Ga 192=some c192:=kR
def c194:IFunc:=mkIC (P:=Ga) (f:=194) _ (by unfold Jd;rw[Tryz.func194];conv=>lhs;cbv)
theorem c194_ok:Jd Ga 194=some c194:=kR
def c195:IFunc:=mkIC (P:=Ga) (f:=195) _ (by unfold Jd;rw[Tryz.func195];conv=>lhs;cbv)
theorem c195_ok:Jd Ga 195=some c195:=kR
def c196:IFunc:=mkIC (P:=Ga) (f:=196) _ (by unfold Jd;rw[Tryz.func196];conv=>lhs;cbv)
theorem c196_ok:Jd Ga 196=some c196:=kR
def c197:IFunc:=mkIC (P:=Ga) (f:=197) _ (by unfold Jd;rw[Tryz.func197];conv=>lhs;cbv)
theorem c197_ok:Jd Ga 197=some c197:=kR
def c198:IFunc:=mkIC (P:=Ga) (f:=198) _ (by unfold Jd;rw[Tryz.func198];conv=>lhs;cbv)
theorem c198_ok:Jd Ga 198=some c198:=kR
def c199:IFunc:=mkIC (P:=Ga) (f:=199) _ (by unfold Jd;rw[Tryz.func199];conv=>lhs;cbv)
theorem c199_ok:Jd Ga 199=some c199:=kR
def c200:IFunc:=mkIC (P:=Ga) (f:=200) _ (by unfold Jd;rw[Tryz.func200];conv=>lhs;cbv)
theorem c200_ok:Jd Ga 200=some c200:=kR
def c203:IFunc:=mkIC (P:=Ga) (f:=203) _ (by unfold Jd;rw[Tryz.func203];conv=>lhs;cbv)
theorem c203_ok:Jd Ga 203=some c203:=kR
def c206:IFunc:=mkIC (P:=Ga) (f:=206) _ (by unfold Jd;rw[Tryz.func206];conv=>lhs;cbv)
theorem c206_ok:Jd Ga 206=some c206:=kR
def c207:IFunc:=mkIC (P:=Ga) (f:=207) _ (by unfold Jd;rw[Tryz.func207];conv=>lhs;cbv)
theorem c207_ok:Jd Ga 207=some c207:=kR
def c208:IFunc:=mkIC (P:=Ga) (f:=208) _ (by unfold Jd;rw[Tryz.func208];conv=>lhs;cbv)
theorem c208_ok:Jd Ga 208=some c208:=kR
def c209:IFunc:=mkIC (P:=Ga) (f:=209) _ (by unfold Jd;rw[Tryz.func209];conv=>lhs;cbv)
theorem c209_ok:Jd Ga 209=some c209:=kR
def c210:IFunc:=mkIC (P:=Ga) (f:=210) _ (by unfold Jd;rw[Tryz.func210];conv=>lhs;cbv)
theorem c210_ok:Jd Ga 210=some c210:=kR
def c213:IFunc:=mkIC (P:=Ga) (f:=213) _ (by unfold Jd;rw[Tryz.func213];conv=>lhs;cbv)
theorem c213_ok:Jd Ga 213=some c213:=kR
def c216:IFunc:=mkIC (P:=Ga) (f:=216) _ (by unfold Jd;rw[Tryz.func216];conv=>lhs;cbv)
theorem c216_ok:Jd Ga 216=some c216:=kR
def c217:IFunc:=mkIC (P:=Ga) (f:=217) _ (by unfold Jd;rw[Tryz.func217];conv=>lhs;cbv)
theorem c217_ok:Jd Ga 217=some c217:=kR
def c218:IFunc:=mkIC (P:=Ga) (f:=218) _ (by unfold Jd;rw[Tryz.func218];conv=>lhs;cbv)
theorem c218_ok:Jd Ga 218=some c218:=kR
def c219:IFunc:=mkIC (P:=Ga) (f:=219) _ (by unfold Jd;rw[Tryz.func219];conv=>lhs;cbv)
theorem c219_ok:Jd Ga 219=some c219:=kR
def c231:IFunc:=mkIC (P:=Ga) (f:=231) _ (by unfold Jd;rw[Tryz.func231];conv=>lhs;cbv)
theorem c231_ok:Jd Ga 231=some c231:=kR
def c232:IFunc:=mkIC (P:=Ga) (f:=232) _ (by unfold Jd;rw[Tryz.func232];conv=>lhs;cbv)
theorem c232_ok:Jd Ga 232=some c232:=kR
def c234:IFunc:=mkIC (P:=Ga) (f:=234) _ (by unfold Jd;rw[Tryz.func234];conv=>lhs;cbv)
theorem c234_ok:Jd Ga 234=some c234:=kR
def c241:IFunc:=mkIC (P:=Ga) (f:=241) _ (by unfold Jd;rw[Tryz.func241];conv=>lhs;cbv)
theorem c241_ok:Jd Ga 241=some c241:=kR
def c248:IFunc:=mkIC (P:=Ga) (f:=248) _ (by unfold Jd;rw[Tryz.func248];conv=>lhs;cbv)
theorem c248_ok:Jd Ga 248=some c248:=kR
def c252:IFunc:=mkIC (P:=Ga) (f:=252) _ (by unfold Jd;rw[Tryz.func252];conv=>lhs;cbv)
theorem c252_ok:Jd Ga 252=some c252:=kR
def c253:IFunc:=mkIC (P:=Ga) (f:=253) _ (by unfold Jd;rw[Tryz.func253];conv=>lhs;cbv)
theorem c253_ok:Jd Ga 253=some c253:=kR
def c255:IFunc:=mkIC (P:=Ga) (f:=255) _ (by unfold Jd;rw[Tryz.func255];conv=>lhs;cbv)
theorem c255_ok:Jd Ga 255=some c255:=kR
def c256:IFunc:=mkIC (P:=Ga) (f:=256) _ (by unfold Jd;rw[Tryz.func256];conv=>lhs;cbv)
theorem c256_ok:Jd Ga 256=some c256:=kR
def c257:IFunc:=mkIC (P:=Ga) (f:=257) _ (by unfold Jd;rw[Tryz.func257];conv=>lhs;cbv)
theorem c257_ok:Jd Ga 257=some c257:=kR
def c258:IFunc:=mkIC (P:=Ga) (f:=258) _ (by unfold Jd;rw[Tryz.func258];conv=>lhs;cbv)
theorem c258_ok:Jd Ga 258=some c258:=kR
def c264:IFunc:=mkIC (P:=Ga) (f:=264) _ (by unfold Jd;rw[Tryz.func264];conv=>lhs;cbv)
theorem c264_ok:Jd Ga 264=some c264:=kR
def c265:IFunc:=mkIC (P:=Ga) (f:=265) _ (by unfold Jd;rw[Tryz.func265];conv=>lhs;cbv)
theorem c265_ok:Jd Ga 265=some c265:=kR
def c266:IFunc:=mkIC (P:=Ga) (f:=266) _ (by unfold Jd;rw[Tryz.func266];conv=>lhs;cbv)
theorem c266_ok:Jd Ga 266=some c266:=kR
def c267:IFunc:=mkIC (P:=Ga) (f:=267) _ (by unfold Jd;rw[Tryz.func267];conv=>lhs;cbv)
theorem c267_ok:Jd Ga 267=some c267:=kR
def c268:IFunc:=mkIC (P:=Ga) (f:=268) _ (by unfold Jd;rw[Tryz.func268];conv=>lhs;cbv)
theorem c268_ok:Jd Ga 268=some c268:=kR
def c270:IFunc:=mkIC (P:=Ga) (f:=270) _ (by unfold Jd;rw[Tryz.func270];conv=>lhs;cbv)
theorem c270_ok:Jd Ga 270=some c270:=kR
def c273:IFunc:=mkIC (P:=Ga) (f:=273) _ (by unfold Jd;rw[Tryz.func273];conv=>lhs;cbv)
theorem c273_ok:Jd Ga 273=some c273:=kR
def c274:IFunc:=mkIC (P:=Ga) (f:=274) _ (by unfold Jd;rw[Tryz.func274];conv=>lhs;cbv)
theorem c274_ok:Jd Ga 274=some c274:=kR
def c277:IFunc:=mkIC (P:=Ga) (f:=277) _ (by unfold Jd;rw[Tryz.func277];conv=>lhs;cbv)
theorem c277_ok:Jd Ga 277=some c277:=kR
def c278:IFunc:=mkIC (P:=Ga) (f:=278) _ (by unfold Jd;rw[Tryz.func278];conv=>lhs;cbv)
theorem c278_ok:Jd Ga 278=some c278:=kR
def c282:IFunc:=mkIC (P:=Ga) (f:=282) _ (by unfold Jd;rw[Tryz.func282];conv=>lhs;cbv)
theorem c282_ok:Jd Ga 282=some c282:=kR
end Go.Cm
end
end
