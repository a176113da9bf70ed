/-
  A part of the proof. Conditions: none.
-/
import Derived.Test.YtdnnimemociklaaGreatDoorYA1
import Derived.Test.YtdnnimemociklaaGreatDoorProg
set_option linter.unusedSimpArgs false
set_option linter.unusedVariables false
open Go.Proofs.Tryz renaming prog->Ga
noncomputable section
section
set_option maxRecDepth 100000
open Go.Proofs
namespace Go.Cm
@[reducible] def mkIr{P:Go.Program}{f:Nat}(F:IFunc)(_:Jd P f=some F):IFunc:=F
def c77:IFunc:=mkIr (P:=Ga) (f:=77) _ (by unfold Jd;rw[Tryz.func77];conv=>lhs;cbv)
theorem c77_ok:Jd Ga 77=some c77:=kR
def c78:IFunc:=mkIr (P:=Ga) (f:=78) _ (by unfold Jd;rw[Tryz.func78];conv=>lhs;cbv)
theorem c78_ok:Jd Ga 78=some c78:=kR
def c79:IFunc:=mkIr (P:=Ga) (f:=79) _ (by unfold Jd;rw[Tryz.func79];conv=>lhs;cbv)
theorem c79_ok:Jd Ga 79=some c79:=kR
def c80:IFunc:=mkIr (P:=Ga) (f:=80) _ (by unfold Jd;rw[Tryz.func80];conv=>lhs;cbv)
theorem c80_ok:Jd Ga 80=some c80:=kR
def c81:IFunc:=mkIr (P:=Ga) (f:=81) _ (by unfold Jd;rw[Tryz.func81];conv=>lhs;cbv)
theorem c81_ok:Jd Ga 81=some c81:=kR
def c82:IFunc:=mkIr (P:=Ga) (f:=82) _ (by unfold Jd;rw[Tryz.func82];conv=>lhs;cbv)
theorem c82_ok:Jd Ga 82=some c82:=kR
def c83:IFunc:=mkIr (P:=Ga) (f:=83) _ (by unfold Jd;rw[Tryz.func83];conv=>lhs;cbv)
theorem c83_ok:Jd Ga 83=some c83:=kR
def c84:IFunc:=mkIr (P:=Ga) (f:=84) _ (by unfold Jd;rw[Tryz.func84];conv=>lhs;cbv)
theorem c84_ok:Jd Ga 84=some c84:=kR
def c85:IFunc:=mkIr (P:=Ga) (f:=85) _ (by unfold Jd;rw[Tryz.func85];conv=>lhs;cbv)
theorem c85_ok:Jd Ga 85=some c85:=kR
def c86:IFunc:=mkIr (P:=Ga) (f:=86) _ (by unfold Jd;rw[Tryz.func86];conv=>lhs;cbv)
theorem c86_ok:Jd Ga 86=some c86:=kR
def c87:IFunc:=mkIr (P:=Ga) (f:=87) _ (by unfold Jd;rw[Tryz.func87];conv=>lhs;cbv)
theorem c87_ok:Jd Ga 87=some c87:=kR
def c88:IFunc:=mkIr (P:=Ga) (f:=88) _ (by unfold Jd;rw[Tryz.func88];conv=>lhs;cbv)
theorem c88_ok:Jd Ga 88=some c88:=kR
def c89:IFunc:=mkIr (P:=Ga) (f:=89) _ (by unfold Jd;rw[Tryz.func89];conv=>lhs;cbv)
theorem c89_ok:Jd Ga 89=some c89:=kR
def c90:IFunc:=mkIr (P:=Ga) (f:=90) _ (by unfold Jd;rw[Tryz.func90];conv=>lhs;cbv)
theorem c90_ok:Jd Ga 90=some c90:=kR
def c91:IFunc:=mkIr (P:=Ga) (f:=91) _ (by unfold Jd;rw[Tryz.func91];conv=>lhs;cbv)
theorem c91_ok:Jd Ga 91=some c91:=kR
def c92:IFunc:=mkIr (P:=Ga) (f:=92) _ (by unfold Jd;rw[Tryz.func92];conv=>lhs;cbv)
theorem c92_ok:Jd Ga 92=some c92:=kR
def c93:IFunc:=mkIr (P:=Ga) (f:=93) _ (by unfold Jd;rw[Tryz.func93];conv=>lhs;cbv)
theorem c93_ok:Jd Ga 93=some c93:=kR
def c94:IFunc:=mkIr (P:=Ga) (f:=94) _ (by unfold Jd;rw[Tryz.func94];conv=>lhs;cbv)
theorem c94_ok:Jd Ga 94=some c94:=kR
def c95:IFunc:=mkIr (P:=Ga) (f:=95) _ (by unfold Jd;rw[Tryz.func95];conv=>lhs;cbv)
theorem c95_ok:Jd Ga 95=some c95:=kR
def c96:IFunc:=mkIr (P:=Ga) (f:=96) _ (by unfold Jd;rw[Tryz.func96];conv=>lhs;cbv)
theorem c96_ok:Jd Ga 96=some c96:=kR
def c97:IFunc:=mkIr (P:=Ga) (f:=97) _ (by unfold Jd;rw[Tryz.func97];conv=>lhs;cbv)
theorem c97_ok:Jd Ga 97=some c97:=kR
def c98:IFunc:=mkIr (P:=Ga) (f:=98) _ (by unfold Jd;rw[Tryz.func98];conv=>lhs;cbv)
theorem c98_ok:Jd Ga 98=some c98:=kR
def c99:IFunc:=mkIr (P:=Ga) (f:=99) _ (by unfold Jd;rw[Tryz.func99];conv=>lhs;cbv)
theorem c99_ok:Jd Ga 99=some c99:=kR
def c100:IFunc:=mkIr (P:=Ga) (f:=100) _ (by unfold Jd;rw[Tryz.func100];conv=>lhs;cbv)
theorem c100_ok:Jd Ga 100=some c100:=kR
def c101:IFunc:=mkIr (P:=Ga) (f:=101) _ (by unfold Jd;rw[Tryz.func101];conv=>lhs;cbv)
theorem c101_ok:Jd Ga 101=some c101:=kR
def c102:IFunc:=mkIr (P:=Ga) (f:=102) _ (by unfold Jd;rw[Tryz.func102];conv=>lhs;cbv)
theorem c102_ok:Jd Ga 102=some c102:=kR
def c103:IFunc:=mkIr (P:=Ga) (f:=103) _ (by unfold Jd;rw[Tryz.func103];conv=>lhs;cbv)
theorem c103_ok:Jd Ga 103=some c103:=kR
def c104:IFunc:=mkIr (P:=Ga) (f:=104) _ (by unfold Jd;rw[Tryz.func104];conv=>lhs;cbv)
theorem c104_ok:Jd Ga 104=some c104:=kR
def c105:IFunc:=mkIr (P:=Ga) (f:=105) _ (by unfold Jd;rw[Tryz.func105];conv=>lhs;cbv)
theorem c105_ok:Jd Ga 105=some c105:=kR
def c106:IFunc:=mkIr (P:=Ga) (f:=106) _ (by unfold Jd;rw[Tryz.func106];conv=>lhs;cbv)
theorem c106_ok:Jd Ga 106=some c106:=kR
def c107:IFunc:=mkIr (P:=Ga) (f:=107) _ (by unfold Jd;rw[Tryz.func107];conv=>lhs;cbv)
theorem c107_ok:Jd Ga 107=some c107:=kR
def c108:IFunc:=mkIr (P:=Ga) (f:=108) _ (by unfold Jd;rw[Tryz.func108];conv=>lhs;cbv)
theorem c108_ok:Jd Ga 108=some c108:=kR
def c109:IFunc:=mkIr (P:=Ga) (f:=109) _ (by unfold Jd;rw[Tryz.func109];conv=>lhs;cbv)
theorem c109_ok:Jd Ga 109=some c109:=kR
def c110:IFunc:=mkIr (P:=Ga) (f:=110) _ (by unfold Jd;rw[Tryz.func110];conv=>lhs;cbv)
theorem c110_ok:Jd Ga 110=some c110:=kR
def c111:IFunc:=mkIr (P:=Ga) (f:=111) _ (by unfold Jd;rw[Tryz.func111];conv=>lhs;cbv)
theorem c111_ok:Jd Ga 111=some c111:=kR
def c112:IFunc:=mkIr (P:=Ga) (f:=112) _ (by unfold Jd;rw[Tryz.func112];conv=>lhs;cbv)
theorem c112_ok:Jd Ga 112=some c112:=kR
def c113:IFunc:=mkIr (P:=Ga) (f:=113) _ (by unfold Jd;rw[Tryz.func113];conv=>lhs;cbv)
theorem c113_ok:Jd Ga 113=some c113:=kR
def c114:IFunc:=mkIr (P:=Ga) (f:=114) _ (by unfold Jd;rw[Tryz.func114];conv=>lhs;cbv)
theorem c114_ok:Jd Ga 114=some c114:=kR
def c115:IFunc:=mkIr (P:=Ga) (f:=115) _ (by unfold Jd;rw[Tryz.func115];conv=>lhs;cbv)
theorem c115_ok:Jd Ga 115=some c115:=kR
def c116:IFunc:=mkIr (P:=Ga) (f:=116) _ (by unfold Jd;rw[Tryz.func116];conv=>lhs;cbv)
theorem c116_ok:Jd Ga 116=some c116:=kR
def c117:IFunc:=mkIr (P:=Ga) (f:=117) _ (by unfold Jd;rw[Tryz.func117];conv=>lhs;cbv)
theorem c117_ok:Jd Ga 117=some c117:=kR
def c118:IFunc:=mkIr (P:=Ga) (f:=118) _ (by unfold Jd;rw[Tryz.func118];conv=>lhs;cbv)
theorem c118_ok:Jd Ga 118=some c118:=kR
def c119:IFunc:=mkIr (P:=Ga) (f:=119) _ (by unfold Jd;rw[Tryz.func119];conv=>lhs;cbv)
theorem c119_ok:Jd Ga 119=some c119:=kR
def c120:IFunc:=mkIr (P:=Ga) (f:=120) _ (by unfold Jd;rw[Tryz.func120];conv=>lhs;cbv)
theorem c120_ok:Jd Ga 120=some c120:=kR
def c121:IFunc:=mkIr (P:=Ga) (f:=121) _ (by unfold Jd;rw[Tryz.func121];conv=>lhs;cbv)
theorem c121_ok:Jd Ga 121=some c121:=kR
def c122:IFunc:=mkIr (P:=Ga) (f:=122) _ (by unfold Jd;rw[Tryz.func122];conv=>lhs;cbv)
theorem c122_ok:Jd Ga 122=some c122:=kR
def c123:IFunc:=mkIr (P:=Ga) (f:=123) _ (by unfold Jd;rw[Tryz.func123];conv=>lhs;cbv)
theorem c123_ok:Jd Ga 123=some c123:=kR
def c124:IFunc:=mkIr (P:=Ga) (f:=124) _ (by unfold Jd;rw[Tryz.func124];conv=>lhs;cbv)
theorem c124_ok:Jd Ga 124=some c124:=kR
def c125:IFunc:=mkIr (P:=Ga) (f:=125) _ (by unfold Jd;rw[Tryz.func125];conv=>lhs;cbv)
theorem c125_ok:Jd Ga 125=some c125:=kR
def c126:IFunc:=mkIr (P:=Ga) (f:=126) _ (by unfold Jd;rw[Tryz.func126];conv=>lhs;cbv)
theorem c126_ok:Jd Ga 126=some c126:=kR
def c127:IFunc:=mkIr (P:=Ga) (f:=127) _ (by unfold Jd;rw[Tryz.func127];conv=>lhs;cbv)
theorem c127_ok:Jd Ga 127=some c127:=kR
def c128:IFunc:=mkIr (P:=Ga) (f:=128) _ (by unfold Jd;rw[Tryz.func128];conv=>lhs;cbv)
theorem c128_ok:Jd Ga 128=some c128:=kR
def c129:IFunc:=mkIr (P:=Ga) (f:=129) _ (by unfold Jd;rw[Tryz.func129];conv=>lhs;cbv)
theorem c129_ok:Jd Ga 129=some c129:=kR
def c130:IFunc:=mkIr (P:=Ga) (f:=130) _ (by unfold Jd;rw[Tryz.func130];conv=>lhs;cbv)
theorem c130_ok:Jd Ga 130=some c130:=kR
def c131:IFunc:=mkIr (P:=Ga) (f:=131) _ (by unfold Jd;rw[Tryz.func131];conv=>lhs;cbv)
theorem c131_ok:Jd Ga 131=some c131:=kR
def c132:IFunc:=mkIr (P:=Ga) (f:=132) _ (by unfold Jd;rw[Tryz.func132];conv=>lhs;cbv)
theorem c132_ok:Jd Ga 132=some c132:=kR
def c133:IFunc:=mkIr (P:=Ga) (f:=133) _ (by unfold Jd;rw[Tryz.func133];conv=>lhs;cbv)
theorem c133_ok:Jd Ga 133=some c133:=kR
def c134:IFunc:=mkIr (P:=Ga) (f:=134) _ (by unfold Jd;rw[Tryz.func134];conv=>lhs;cbv)
theorem c134_ok:Jd Ga 134=some c134:=kR
def c135:IFunc:=mkIr (P:=Ga) (f:=135) _ (by unfold Jd;rw[Tryz.func135];conv=>lhs;cbv)
theorem c135_ok:Jd Ga 135=some c135:=kR
def c136:IFunc:=mkIr (P:=Ga) (f:=136) _ (by unfold Jd;rw[Tryz.func136];conv=>lhs;cbv)
theorem c136_ok:Jd Ga 136=some c136:=kR
def c137:IFunc:=mkIr (P:=Ga) (f:=137) _ (by unfold Jd;rw[Tryz.func137];conv=>lhs;cbv)
theorem c137_ok:Jd Ga 137=some c137:=kR
def c138:IFunc:=mkIr (P:=Ga) (f:=138) _ (by unfold Jd;rw[Tryz.func138];conv=>lhs;cbv)
theorem c138_ok:Jd Ga 138=some c138:=kR
def c139:IFunc:=mkIr (P:=Ga) (f:=139) _ (by unfold Jd;rw[Tryz.func139];conv=>lhs;cbv)
theorem c139_ok:Jd Ga 139=some c139:=kR
def c140:IFunc:=mkIr (P:=Ga) (f:=140) _ (by unfold Jd;rw[Tryz.func140];conv=>lhs;cbv)
theorem c140_ok:Jd Ga 140=some c140:=kR
def c141:IFunc:=mkIr (P:=Ga) (f:=141) _ (by unfold Jd;rw[Tryz.func141];conv=>lhs;cbv)
theorem c141_ok:Jd Ga 141=some c141:=kR
def c142:IFunc:=mkIr (P:=Ga) (f:=142) _ (by unfold Jd;rw[Tryz.func142];conv=>lhs;cbv)
theorem c142_ok:Jd Ga 142=some c142:=kR
def c143:IFunc:=mkIr (P:=Ga) (f:=143) _ (by unfold Jd;rw[Tryz.func143];conv=>lhs;cbv)
theorem c143_ok:Jd Ga 143=some c143:=kR
def c144:IFunc:=mkIr (P:=Ga) (f:=144) _ (by unfold Jd;rw[Tryz.func144];conv=>lhs;cbv)
theorem c144_ok:Jd Ga 144=some c144:=kR
def c145:IFunc:=mkIr (P:=Ga) (f:=145) _ (by unfold Jd;rw[Tryz.func145];conv=>lhs;cbv)
theorem c145_ok:Jd Ga 145=some c145:=kR
def c146:IFunc:=mkIr (P:=Ga) (f:=146) _ (by unfold Jd;rw[Tryz.func146];conv=>lhs;cbv)
theorem c146_ok:Jd Ga 146=some c146:=kR
def c147:IFunc:=mkIr (P:=Ga) (f:=147) _ (by unfold Jd;rw[Tryz.func147];conv=>lhs;cbv)
theorem c147_ok:Jd Ga 147=some c147:=kR
def c148:IFunc:=mkIr (P:=Ga) (f:=148) _ (by unfold Jd;rw[Tryz.func148];conv=>lhs;cbv)
theorem c148_ok:Jd Ga 148=some c148:=kR
def c149:IFunc:=mkIr (P:=Ga) (f:=149) _ (by unfold Jd;rw[Tryz.func149];conv=>lhs;cbv)
theorem c149_ok:Jd Ga 149=some c149:=kR
def c150:IFunc:=mkIr (P:=Ga) (f:=150) _ (by unfold Jd;rw[Tryz.func150];conv=>lhs;cbv)
theorem c150_ok:Jd Ga 150=some c150:=kR
def c151:IFunc:=mkIr (P:=Ga) (f:=151) _ (by unfold Jd;rw[Tryz.func151];conv=>lhs;cbv)
theorem c151_ok:Jd Ga 151=some c151:=kR
def c152:IFunc:=mkIr (P:=Ga) (f:=152) _ (by unfold Jd;rw[Tryz.func152];conv=>lhs;cbv)
theorem c152_ok:Jd Ga 152=some c152:=kR
def c153:IFunc:=mkIr (P:=Ga) (f:=153) _ (by unfold Jd;rw[Tryz.func153];conv=>lhs;cbv)
theorem c153_ok:Jd Ga 153=some c153:=kR
def c154:IFunc:=mkIr (P:=Ga) (f:=154) _ (by unfold Jd;rw[Tryz.func154];conv=>lhs;cbv)
theorem c154_ok:Jd Ga 154=some c154:=kR
def c155:IFunc:=mkIr (P:=Ga) (f:=155) _ (by unfold Jd;rw[Tryz.func155];conv=>lhs;cbv)
theorem c155_ok:Jd Ga 155=some c155:=kR
def c156:IFunc:=mkIr (P:=Ga) (f:=156) _ (by unfold Jd;rw[Tryz.func156];conv=>lhs;cbv)
theorem c156_ok:Jd Ga 156=some c156:=kR
def c157:IFunc:=mkIr (P:=Ga) (f:=157) _ (by unfold Jd;rw[Tryz.func157];conv=>lhs;cbv)
theorem c157_ok:Jd Ga 157=some c157:=kR
def c158:IFunc:=mkIr (P:=Ga) (f:=158) _ (by unfold Jd;rw[Tryz.func158];conv=>lhs;cbv)
theorem c158_ok:Jd Ga 158=some c158:=kR
def c159:IFunc:=mkIr (P:=Ga) (f:=159) _ (by unfold Jd;rw[Tryz.func159];conv=>lhs;cbv)
theorem c159_ok:Jd Ga 159=some c159:=kR
def c160:IFunc:=mkIr (P:=Ga) (f:=160) _ (by unfold Jd;rw[Tryz.func160];conv=>lhs;cbv)
theorem c160_ok:Jd Ga 160=some c160:=kR
def c161:IFunc:=mkIr (P:=Ga) (f:=161) _ (by unfold Jd;rw[Tryz.func161];conv=>lhs;cbv)
theorem c161_ok:Jd Ga 161=some c161:=kR
def c162:IFunc:=mkIr (P:=Ga) (f:=162) _ (by unfold Jd;rw[Tryz.func162];conv=>lhs;cbv)
theorem c162_ok:Jd Ga 162=some c162:=kR
def c163:IFunc:=mkIr (P:=Ga) (f:=163) _ (by unfold Jd;rw[Tryz.func163];conv=>lhs;cbv)
theorem c163_ok:Jd Ga 163=some c163:=kR
def c164:IFunc:=mkIr (P:=Ga) (f:=164) _ (by unfold Jd;rw[Tryz.func164];conv=>lhs;cbv)
theorem c164_ok:Jd Ga 164=some c164:=kR
def c165:IFunc:=mkIr (P:=Ga) (f:=165) _ (by unfold Jd;rw[Tryz.func165];conv=>lhs;cbv)
theorem c165_ok:Jd Ga 165=some c165:=kR
def c166:IFunc:=mkIr (P:=Ga) (f:=166) _ (by unfold Jd;rw[Tryz.func166];conv=>lhs;cbv)
theorem c166_ok:Jd Ga 166=some c166:=kR
def c167:IFunc:=mkIr (P:=Ga) (f:=167) _ (by unfold Jd;rw[Tryz.func167];conv=>lhs;cbv)
theorem c167_ok:Jd Ga 167=some c167:=kR
def c168:IFunc:=mkIr (P:=Ga) (f:=168) _ (by unfold Jd;rw[Tryz.func168];conv=>lhs;cbv)
theorem c168_ok:Jd Ga 168=some c168:=kR
def c169:IFunc:=mkIr (P:=Ga) (f:=169) _ (by unfold Jd;rw[Tryz.func169];conv=>lhs;cbv)
theorem c169_ok:Jd Ga 169=some c169:=kR
def c170:IFunc:=mkIr (P:=Ga) (f:=170) _ (by unfold Jd;rw[Tryz.func170];conv=>lhs;cbv)
theorem c170_ok:Jd Ga 170=some c170:=kR
def c171:IFunc:=mkIr (P:=Ga) (f:=171) _ (by unfold Jd;rw[Tryz.func171];conv=>lhs;cbv)
theorem c171_ok:Jd Ga 171=some c171:=kR
def c173:IFunc:=mkIr (P:=Ga) (f:=173) _ (by unfold Jd;rw[Tryz.func173];conv=>lhs;cbv)
theorem c173_ok:Jd Ga 173=some c173:=kR
def c174:IFunc:=mkIr (P:=Ga) (f:=174) _ (by unfold Jd;rw[Tryz.func174];conv=>lhs;cbv)
theorem c174_ok:Jd Ga 174=some c174:=kR
def c176:IFunc:=mkIr (P:=Ga) (f:=176) _ (by unfold Jd;rw[Tryz.func176];conv=>lhs;cbv)
theorem c176_ok:Jd Ga 176=some c176:=kR
def c177:IFunc:=mkIr (P:=Ga) (f:=177) _ (by unfold Jd;rw[Tryz.func177];conv=>lhs;cbv)
theorem c177_ok:Jd Ga 177=some c177:=kR
end Go.Cm
end
end
