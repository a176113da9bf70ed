/-
  A part of the proof. Conditions: none.
-/
import Derived.Test.YtdnnimemociklaaGreatDoorWA1
import Derived.Test.YtdnnimemociklaaGreatDoorProg
set_option linter.unusedSimpArgs false
set_option linter.unusedVariables false
open Go.Proofs.Tryz renaming prog->Ga
noncomputable section
section
set_option maxRecDepth 100000
open Go.Proofs
namespace Go.Cm
@[reducible] def mkIr{P:Go.Program}{f:Nat}(F:IFunc)(_:Jg P f=some F):IFunc:=F
def c77:IFunc:=mkIr (P:=Ga) (f:=77) _ (by unfold Jg;rw[Tryz.func77];conv=>lhs;cbv)
theorem c77_ok:Jg Ga 77=some c77:=vK
def c78:IFunc:=mkIr (P:=Ga) (f:=78) _ (by unfold Jg;rw[Tryz.func78];conv=>lhs;cbv)
theorem c78_ok:Jg Ga 78=some c78:=vK
def c79:IFunc:=mkIr (P:=Ga) (f:=79) _ (by unfold Jg;rw[Tryz.func79];conv=>lhs;cbv)
theorem c79_ok:Jg Ga 79=some c79:=vK
def c80:IFunc:=mkIr (P:=Ga) (f:=80) _ (by unfold Jg;rw[Tryz.func80];conv=>lhs;cbv)
theorem c80_ok:Jg Ga 80=some c80:=vK
def c81:IFunc:=mkIr (P:=Ga) (f:=81) _ (by unfold Jg;rw[Tryz.func81];conv=>lhs;cbv)
theorem c81_ok:Jg Ga 81=some c81:=vK
def c82:IFunc:=mkIr (P:=Ga) (f:=82) _ (by unfold Jg;rw[Tryz.func82];conv=>lhs;cbv)
theorem c82_ok:Jg Ga 82=some c82:=vK
def c83:IFunc:=mkIr (P:=Ga) (f:=83) _ (by unfold Jg;rw[Tryz.func83];conv=>lhs;cbv)
theorem c83_ok:Jg Ga 83=some c83:=vK
def c84:IFunc:=mkIr (P:=Ga) (f:=84) _ (by unfold Jg;rw[Tryz.func84];conv=>lhs;cbv)
theorem c84_ok:Jg Ga 84=some c84:=vK
def c85:IFunc:=mkIr (P:=Ga) (f:=85) _ (by unfold Jg;rw[Tryz.func85];conv=>lhs;cbv)
theorem c85_ok:Jg Ga 85=some c85:=vK
def c86:IFunc:=mkIr (P:=Ga) (f:=86) _ (by unfold Jg;rw[Tryz.func86];conv=>lhs;cbv)
theorem c86_ok:Jg Ga 86=some c86:=vK
def c87:IFunc:=mkIr (P:=Ga) (f:=87) _ (by unfold Jg;rw[Tryz.func87];conv=>lhs;cbv)
theorem c87_ok:Jg Ga 87=some c87:=vK
def c88:IFunc:=mkIr (P:=Ga) (f:=88) _ (by unfold Jg;rw[Tryz.func88];conv=>lhs;cbv)
theorem c88_ok:Jg Ga 88=some c88:=vK
def c89:IFunc:=mkIr (P:=Ga) (f:=89) _ (by unfold Jg;rw[Tryz.func89];conv=>lhs;cbv)
theorem c89_ok:Jg Ga 89=some c89:=vK
def c90:IFunc:=mkIr (P:=Ga) (f:=90) _ (by unfold Jg;rw[Tryz.func90];conv=>lhs;cbv)
theorem c90_ok:Jg Ga 90=some c90:=vK
def c91:IFunc:=mkIr (P:=Ga) (f:=91) _ (by unfold Jg;rw[Tryz.func91];conv=>lhs;cbv)
theorem c91_ok:Jg Ga 91=some c91:=vK
def c92:IFunc:=mkIr (P:=Ga) (f:=92) _ (by unfold Jg;rw[Tryz.func92];conv=>lhs;cbv)
theorem c92_ok:Jg Ga 92=some c92:=vK
def c93:IFunc:=mkIr (P:=Ga) (f:=93) _ (by unfold Jg;rw[Tryz.func93];conv=>lhs;cbv)
theorem c93_ok:Jg Ga 93=some c93:=vK
def c94:IFunc:=mkIr (P:=Ga) (f:=94) _ (by unfold Jg;rw[Tryz.func94];conv=>lhs;cbv)
theorem c94_ok:Jg Ga 94=some c94:=vK
def c95:IFunc:=mkIr (P:=Ga) (f:=95) _ (by unfold Jg;rw[Tryz.func95];conv=>lhs;cbv)
theorem c95_ok:Jg Ga 95=some c95:=vK
def c96:IFunc:=mkIr (P:=Ga) (f:=96) _ (by unfold Jg;rw[Tryz.func96];conv=>lhs;cbv)
theorem c96_ok:Jg Ga 96=some c96:=vK
def c97:IFunc:=mkIr (P:=Ga) (f:=97) _ (by unfold Jg;rw[Tryz.func97];conv=>lhs;cbv)
theorem c97_ok:Jg Ga 97=some c97:=vK
def c98:IFunc:=mkIr (P:=Ga) (f:=98) _ (by unfold Jg;rw[Tryz.func98];conv=>lhs;cbv)
theorem c98_ok:Jg Ga 98=some c98:=vK
def c99:IFunc:=mkIr (P:=Ga) (f:=99) _ (by unfold Jg;rw[Tryz.func99];conv=>lhs;cbv)
theorem c99_ok:Jg Ga 99=some c99:=vK
def c100:IFunc:=mkIr (P:=Ga) (f:=100) _ (by unfold Jg;rw[Tryz.func100];conv=>lhs;cbv)
theorem c100_ok:Jg Ga 100=some c100:=vK
def c101:IFunc:=mkIr (P:=Ga) (f:=101) _ (by unfold Jg;rw[Tryz.func101];conv=>lhs;cbv)
theorem c101_ok:Jg Ga 101=some c101:=vK
def c102:IFunc:=mkIr (P:=Ga) (f:=102) _ (by unfold Jg;rw[Tryz.func102];conv=>lhs;cbv)
theorem c102_ok:Jg Ga 102=some c102:=vK
def c111:IFunc:=mkIr (P:=Ga) (f:=111) _ (by unfold Jg;rw[Tryz.func111];conv=>lhs;cbv)
theorem c111_ok:Jg Ga 111=some c111:=vK
def c115:IFunc:=mkIr (P:=Ga) (f:=115) _ (by unfold Jg;rw[Tryz.func115];conv=>lhs;cbv)
theorem c115_ok:Jg Ga 115=some c115:=vK
def c116:IFunc:=mkIr (P:=Ga) (f:=116) _ (by unfold Jg;rw[Tryz.func116];conv=>lhs;cbv)
theorem c116_ok:Jg Ga 116=some c116:=vK
def c117:IFunc:=mkIr (P:=Ga) (f:=117) _ (by unfold Jg;rw[Tryz.func117];conv=>lhs;cbv)
theorem c117_ok:Jg Ga 117=some c117:=vK
def c118:IFunc:=mkIr (P:=Ga) (f:=118) _ (by unfold Jg;rw[Tryz.func118];conv=>lhs;cbv)
theorem c118_ok:Jg Ga 118=some c118:=vK
def c119:IFunc:=mkIr (P:=Ga) (f:=119) _ (by unfold Jg;rw[Tryz.func119];conv=>lhs;cbv)
theorem c119_ok:Jg Ga 119=some c119:=vK
def c120:IFunc:=mkIr (P:=Ga) (f:=120) _ (by unfold Jg;rw[Tryz.func120];conv=>lhs;cbv)
theorem c120_ok:Jg Ga 120=some c120:=vK
def c121:IFunc:=mkIr (P:=Ga) (f:=121) _ (by unfold Jg;rw[Tryz.func121];conv=>lhs;cbv)
theorem c121_ok:Jg Ga 121=some c121:=vK
def c122:IFunc:=mkIr (P:=Ga) (f:=122) _ (by unfold Jg;rw[Tryz.func122];conv=>lhs;cbv)
theorem c122_ok:Jg Ga 122=some c122:=vK
def c123:IFunc:=mkIr (P:=Ga) (f:=123) _ (by unfold Jg;rw[Tryz.func123];conv=>lhs;cbv)
theorem c123_ok:Jg Ga 123=some c123:=vK
def c124:IFunc:=mkIr (P:=Ga) (f:=124) _ (by unfold Jg;rw[Tryz.func124];conv=>lhs;cbv)
theorem c124_ok:Jg Ga 124=some c124:=vK
def c125:IFunc:=mkIr (P:=Ga) (f:=125) _ (by unfold Jg;rw[Tryz.func125];conv=>lhs;cbv)
theorem c125_ok:Jg Ga 125=some c125:=vK
def c126:IFunc:=mkIr (P:=Ga) (f:=126) _ (by unfold Jg;rw[Tryz.func126];conv=>lhs;cbv)
theorem c126_ok:Jg Ga 126=some c126:=vK
def c127:IFunc:=mkIr (P:=Ga) (f:=127) _ (by unfold Jg;rw[Tryz.func127];conv=>lhs;cbv)
theorem c127_ok:Jg Ga 127=some c127:=vK
def c128:IFunc:=mkIr (P:=Ga) (f:=128) _ (by unfold Jg;rw[Tryz.func128];conv=>lhs;cbv)
theorem c128_ok:Jg Ga 128=some c128:=vK
def c129:IFunc:=mkIr (P:=Ga) (f:=129) _ (by unfold Jg;rw[Tryz.func129];conv=>lhs;cbv)
theorem c129_ok:Jg Ga 129=some c129:=vK
def c130:IFunc:=mkIr (P:=Ga) (f:=130) _ (by unfold Jg;rw[Tryz.func130];conv=>lhs;cbv)
theorem c130_ok:Jg Ga 130=some c130:=vK
def c131:IFunc:=mkIr (P:=Ga) (f:=131) _ (by unfold Jg;rw[Tryz.func131];conv=>lhs;cbv)
theorem c131_ok:Jg Ga 131=some c131:=vK
def c132:IFunc:=mkIr (P:=Ga) (f:=132) _ (by unfold Jg;rw[Tryz.func132];conv=>lhs;cbv)
theorem c132_ok:Jg Ga 132=some c132:=vK
def c133:IFunc:=mkIr (P:=Ga) (f:=133) _ (by unfold Jg;rw[Tryz.func133];conv=>lhs;cbv)
theorem c133_ok:Jg Ga 133=some c133:=vK
def c134:IFunc:=mkIr (P:=Ga) (f:=134) _ (by unfold Jg;rw[Tryz.func134];conv=>lhs;cbv)
theorem c134_ok:Jg Ga 134=some c134:=vK
def c135:IFunc:=mkIr (P:=Ga) (f:=135) _ (by unfold Jg;rw[Tryz.func135];conv=>lhs;cbv)
theorem c135_ok:Jg Ga 135=some c135:=vK
def c136:IFunc:=mkIr (P:=Ga) (f:=136) _ (by unfold Jg;rw[Tryz.func136];conv=>lhs;cbv)
theorem c136_ok:Jg Ga 136=some c136:=vK
def c137:IFunc:=mkIr (P:=Ga) (f:=137) _ (by unfold Jg;rw[Tryz.func137];conv=>lhs;cbv)
theorem c137_ok:Jg Ga 137=some c137:=vK
def c138:IFunc:=mkIr (P:=Ga) (f:=138) _ (by unfold Jg;rw[Tryz.func138];conv=>lhs;cbv)
theorem c138_ok:Jg Ga 138=some c138:=vK
def c139:IFunc:=mkIr (P:=Ga) (f:=139) _ (by unfold Jg;rw[Tryz.func139];conv=>lhs;cbv)
theorem c139_ok:Jg Ga 139=some c139:=vK
def c140:IFunc:=mkIr (P:=Ga) (f:=140) _ (by unfold Jg;rw[Tryz.func140];conv=>lhs;cbv)
theorem c140_ok:Jg Ga 140=some c140:=vK
def c141:IFunc:=mkIr (P:=Ga) (f:=141) _ (by unfold Jg;rw[Tryz.func141];conv=>lhs;cbv)
theorem c141_ok:Jg Ga 141=some c141:=vK
def c142:IFunc:=mkIr (P:=Ga) (f:=142) _ (by unfold Jg;rw[Tryz.func142];conv=>lhs;cbv)
theorem c142_ok:Jg Ga 142=some c142:=vK
def c143:IFunc:=mkIr (P:=Ga) (f:=143) _ (by unfold Jg;rw[Tryz.func143];conv=>lhs;cbv)
theorem c143_ok:Jg Ga 143=some c143:=vK
def c144:IFunc:=mkIr (P:=Ga) (f:=144) _ (by unfold Jg;rw[Tryz.func144];conv=>lhs;cbv)
theorem c144_ok:Jg Ga 144=some c144:=vK
def c145:IFunc:=mkIr (P:=Ga) (f:=145) _ (by unfold Jg;rw[Tryz.func145];conv=>lhs;cbv)
theorem c145_ok:Jg Ga 145=some c145:=vK
def c146:IFunc:=mkIr (P:=Ga) (f:=146) _ (by unfold Jg;rw[Tryz.func146];conv=>lhs;cbv)
theorem c146_ok:Jg Ga 146=some c146:=vK
def c147:IFunc:=mkIr (P:=Ga) (f:=147) _ (by unfold Jg;rw[Tryz.func147];conv=>lhs;cbv)
theorem c147_ok:Jg Ga 147=some c147:=vK
def c148:IFunc:=mkIr (P:=Ga) (f:=148) _ (by unfold Jg;rw[Tryz.func148];conv=>lhs;cbv)
theorem c148_ok:Jg Ga 148=some c148:=vK
def c149:IFunc:=mkIr (P:=Ga) (f:=149) _ (by unfold Jg;rw[Tryz.func149];conv=>lhs;cbv)
theorem c149_ok:Jg Ga 149=some c149:=vK
def c150:IFunc:=mkIr (P:=Ga) (f:=150) _ (by unfold Jg;rw[Tryz.func150];conv=>lhs;cbv)
theorem c150_ok:Jg Ga 150=some c150:=vK
def c151:IFunc:=mkIr (P:=Ga) (f:=151) _ (by unfold Jg;rw[Tryz.func151];conv=>lhs;cbv)
theorem c151_ok:Jg Ga 151=some c151:=vK
def c152:IFunc:=mkIr (P:=Ga) (f:=152) _ (by unfold Jg;rw[Tryz.func152];conv=>lhs;cbv)
theorem c152_ok:Jg Ga 152=some c152:=vK
def c153:IFunc:=mkIr (P:=Ga) (f:=153) _ (by unfold Jg;rw[Tryz.func153];conv=>lhs;cbv)
theorem c153_ok:Jg Ga 153=some c153:=vK
def c157:IFunc:=mkIr (P:=Ga) (f:=157) _ (by unfold Jg;rw[Tryz.func157];conv=>lhs;cbv)
theorem c157_ok:Jg Ga 157=some c157:=vK
def c158:IFunc:=mkIr (P:=Ga) (f:=158) _ (by unfold Jg;rw[Tryz.func158];conv=>lhs;cbv)
theorem c158_ok:Jg Ga 158=some c158:=vK
def c159:IFunc:=mkIr (P:=Ga) (f:=159) _ (by unfold Jg;rw[Tryz.func159];conv=>lhs;cbv)
theorem c159_ok:Jg Ga 159=some c159:=vK
def c160:IFunc:=mkIr (P:=Ga) (f:=160) _ (by unfold Jg;rw[Tryz.func160];conv=>lhs;cbv)
theorem c160_ok:Jg Ga 160=some c160:=vK
def c161:IFunc:=mkIr (P:=Ga) (f:=161) _ (by unfold Jg;rw[Tryz.func161];conv=>lhs;cbv)
theorem c161_ok:Jg Ga 161=some c161:=vK
def c162:IFunc:=mkIr (P:=Ga) (f:=162) _ (by unfold Jg;rw[Tryz.func162];conv=>lhs;cbv)
theorem c162_ok:Jg Ga 162=some c162:=vK
def c163:IFunc:=mkIr (P:=Ga) (f:=163) _ (by unfold Jg;rw[Tryz.func163];conv=>lhs;cbv)
theorem c163_ok:Jg Ga 163=some c163:=vK
def c164:IFunc:=mkIr (P:=Ga) (f:=164) _ (by unfold Jg;rw[Tryz.func164];conv=>lhs;cbv)
theorem c164_ok:Jg Ga 164=some c164:=vK
def c165:IFunc:=mkIr (P:=Ga) (f:=165) _ (by unfold Jg;rw[Tryz.func165];conv=>lhs;cbv)
theorem c165_ok:Jg Ga 165=some c165:=vK
def c166:IFunc:=mkIr (P:=Ga) (f:=166) _ (by unfold Jg;rw[Tryz.func166];conv=>lhs;cbv)
theorem c166_ok:Jg Ga 166=some c166:=vK
def c167:IFunc:=mkIr (P:=Ga) (f:=167) _ (by unfold Jg;rw[Tryz.func167];conv=>lhs;cbv)
theorem c167_ok:Jg Ga 167=some c167:=vK
def c168:IFunc:=mkIr (P:=Ga) (f:=168) _ (by unfold Jg;rw[Tryz.func168];conv=>lhs;cbv)
theorem c168_ok:Jg Ga 168=some c168:=vK
def c169:IFunc:=mkIr (P:=Ga) (f:=169) _ (by unfold Jg;rw[Tryz.func169];conv=>lhs;cbv)
theorem c169_ok:Jg Ga 169=some c169:=vK
def c170:IFunc:=mkIr (P:=Ga) (f:=170) _ (by unfold Jg;rw[Tryz.func170];conv=>lhs;cbv)
theorem c170_ok:Jg Ga 170=some c170:=vK
def c171:IFunc:=mkIr (P:=Ga) (f:=171) _ (by unfold Jg;rw[Tryz.func171];conv=>lhs;cbv)
theorem c171_ok:Jg Ga 171=some c171:=vK
def c173:IFunc:=mkIr (P:=Ga) (f:=173) _ (by unfold Jg;rw[Tryz.func173];conv=>lhs;cbv)
theorem c173_ok:Jg Ga 173=some c173:=vK
def c174:IFunc:=mkIr (P:=Ga) (f:=174) _ (by unfold Jg;rw[Tryz.func174];conv=>lhs;cbv)
theorem c174_ok:Jg Ga 174=some c174:=vK
def c176:IFunc:=mkIr (P:=Ga) (f:=176) _ (by unfold Jg;rw[Tryz.func176];conv=>lhs;cbv)
theorem c176_ok:Jg Ga 176=some c176:=vK
def c177:IFunc:=mkIr (P:=Ga) (f:=177) _ (by unfold Jg;rw[Tryz.func177];conv=>lhs;cbv)
theorem c177_ok:Jg Ga 177=some c177:=vK
end Go.Cm
end
end
