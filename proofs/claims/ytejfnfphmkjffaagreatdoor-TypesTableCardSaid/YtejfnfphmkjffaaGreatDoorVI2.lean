/-
  A part of the proof. Conditions: none.
-/
import Derived.Test.YtejfnfphmkjffaaGreatDoorVA1
import Derived.Test.YtejfnfphmkjffaaGreatDoorProg
set_option linter.unusedSimpArgs false
set_option linter.unusedVariables false
open Go.Proofs.Tryz renaming prog->Ga
noncomputable section
section
set_option maxRecDepth 100000
open Go.Proofs
namespace Go.Cm
@[reducible] def mkIr{P:Go.Program}{f:Nat}(F:IFunc)(_:Je P f=some F):IFunc:=F
def c59:IFunc:=mkIr (P:=Ga) (f:=59) _ (by unfold Je;rw[Tryz.func59];conv=>lhs;cbv)
theorem c59_ok:Je Ga 59=some c59:=by kernel_rfl
def c60:IFunc:=mkIr (P:=Ga) (f:=60) _ (by unfold Je;rw[Tryz.func60];conv=>lhs;cbv)
theorem c60_ok:Je Ga 60=some c60:=by kernel_rfl
def c61:IFunc:=mkIr (P:=Ga) (f:=61) _ (by unfold Je;rw[Tryz.func61];conv=>lhs;cbv)
theorem c61_ok:Je Ga 61=some c61:=by kernel_rfl
def c62:IFunc:=mkIr (P:=Ga) (f:=62) _ (by unfold Je;rw[Tryz.func62];conv=>lhs;cbv)
theorem c62_ok:Je Ga 62=some c62:=by kernel_rfl
def c63:IFunc:=mkIr (P:=Ga) (f:=63) _ (by unfold Je;rw[Tryz.func63];conv=>lhs;cbv)
theorem c63_ok:Je Ga 63=some c63:=by kernel_rfl
def c64:IFunc:=mkIr (P:=Ga) (f:=64) _ (by unfold Je;rw[Tryz.func64];conv=>lhs;cbv)
theorem c64_ok:Je Ga 64=some c64:=by kernel_rfl
def c65:IFunc:=mkIr (P:=Ga) (f:=65) _ (by unfold Je;rw[Tryz.func65];conv=>lhs;cbv)
theorem c65_ok:Je Ga 65=some c65:=by kernel_rfl
def c66:IFunc:=mkIr (P:=Ga) (f:=66) _ (by unfold Je;rw[Tryz.func66];conv=>lhs;cbv)
theorem c66_ok:Je Ga 66=some c66:=by kernel_rfl
def c67:IFunc:=mkIr (P:=Ga) (f:=67) _ (by unfold Je;rw[Tryz.func67];conv=>lhs;cbv)
theorem c67_ok:Je Ga 67=some c67:=by kernel_rfl
def c68:IFunc:=mkIr (P:=Ga) (f:=68) _ (by unfold Je;rw[Tryz.func68];conv=>lhs;cbv)
theorem c68_ok:Je Ga 68=some c68:=by kernel_rfl
def c69:IFunc:=mkIr (P:=Ga) (f:=69) _ (by unfold Je;rw[Tryz.func69];conv=>lhs;cbv)
theorem c69_ok:Je Ga 69=some c69:=by kernel_rfl
def c70:IFunc:=mkIr (P:=Ga) (f:=70) _ (by unfold Je;rw[Tryz.func70];conv=>lhs;cbv)
theorem c70_ok:Je Ga 70=some c70:=by kernel_rfl
def c71:IFunc:=mkIr (P:=Ga) (f:=71) _ (by unfold Je;rw[Tryz.func71];conv=>lhs;cbv)
theorem c71_ok:Je Ga 71=some c71:=by kernel_rfl
def c72:IFunc:=mkIr (P:=Ga) (f:=72) _ (by unfold Je;rw[Tryz.func72];conv=>lhs;cbv)
theorem c72_ok:Je Ga 72=some c72:=by kernel_rfl
def c73:IFunc:=mkIr (P:=Ga) (f:=73) _ (by unfold Je;rw[Tryz.func73];conv=>lhs;cbv)
theorem c73_ok:Je Ga 73=some c73:=by kernel_rfl
def c74:IFunc:=mkIr (P:=Ga) (f:=74) _ (by unfold Je;rw[Tryz.func74];conv=>lhs;cbv)
theorem c74_ok:Je Ga 74=some c74:=by kernel_rfl
def c75:IFunc:=mkIr (P:=Ga) (f:=75) _ (by unfold Je;rw[Tryz.func75];conv=>lhs;cbv)
theorem c75_ok:Je Ga 75=some c75:=by kernel_rfl
def c76:IFunc:=mkIr (P:=Ga) (f:=76) _ (by unfold Je;rw[Tryz.func76];conv=>lhs;cbv)
theorem c76_ok:Je Ga 76=some c76:=by kernel_rfl
def c77:IFunc:=mkIr (P:=Ga) (f:=77) _ (by unfold Je;rw[Tryz.func77];conv=>lhs;cbv)
theorem c77_ok:Je Ga 77=some c77:=by kernel_rfl
def c78:IFunc:=mkIr (P:=Ga) (f:=78) _ (by unfold Je;rw[Tryz.func78];conv=>lhs;cbv)
theorem c78_ok:Je Ga 78=some c78:=by kernel_rfl
def c79:IFunc:=mkIr (P:=Ga) (f:=79) _ (by unfold Je;rw[Tryz.func79];conv=>lhs;cbv)
theorem c79_ok:Je Ga 79=some c79:=by kernel_rfl
def c80:IFunc:=mkIr (P:=Ga) (f:=80) _ (by unfold Je;rw[Tryz.func80];conv=>lhs;cbv)
theorem c80_ok:Je Ga 80=some c80:=by kernel_rfl
def c81:IFunc:=mkIr (P:=Ga) (f:=81) _ (by unfold Je;rw[Tryz.func81];conv=>lhs;cbv)
theorem c81_ok:Je Ga 81=some c81:=by kernel_rfl
def c82:IFunc:=mkIr (P:=Ga) (f:=82) _ (by unfold Je;rw[Tryz.func82];conv=>lhs;cbv)
theorem c82_ok:Je Ga 82=some c82:=by kernel_rfl
def c83:IFunc:=mkIr (P:=Ga) (f:=83) _ (by unfold Je;rw[Tryz.func83];conv=>lhs;cbv)
theorem c83_ok:Je Ga 83=some c83:=by kernel_rfl
def c84:IFunc:=mkIr (P:=Ga) (f:=84) _ (by unfold Je;rw[Tryz.func84];conv=>lhs;cbv)
theorem c84_ok:Je Ga 84=some c84:=by kernel_rfl
def c85:IFunc:=mkIr (P:=Ga) (f:=85) _ (by unfold Je;rw[Tryz.func85];conv=>lhs;cbv)
theorem c85_ok:Je Ga 85=some c85:=by kernel_rfl
def c86:IFunc:=mkIr (P:=Ga) (f:=86) _ (by unfold Je;rw[Tryz.func86];conv=>lhs;cbv)
theorem c86_ok:Je Ga 86=some c86:=by kernel_rfl
def c87:IFunc:=mkIr (P:=Ga) (f:=87) _ (by unfold Je;rw[Tryz.func87];conv=>lhs;cbv)
theorem c87_ok:Je Ga 87=some c87:=by kernel_rfl
def c88:IFunc:=mkIr (P:=Ga) (f:=88) _ (by unfold Je;rw[Tryz.func88];conv=>lhs;cbv)
theorem c88_ok:Je Ga 88=some c88:=by kernel_rfl
def c89:IFunc:=mkIr (P:=Ga) (f:=89) _ (by unfold Je;rw[Tryz.func89];conv=>lhs;cbv)
theorem c89_ok:Je Ga 89=some c89:=by kernel_rfl
def c90:IFunc:=mkIr (P:=Ga) (f:=90) _ (by unfold Je;rw[Tryz.func90];conv=>lhs;cbv)
theorem c90_ok:Je Ga 90=some c90:=by kernel_rfl
def c91:IFunc:=mkIr (P:=Ga) (f:=91) _ (by unfold Je;rw[Tryz.func91];conv=>lhs;cbv)
theorem c91_ok:Je Ga 91=some c91:=by kernel_rfl
def c92:IFunc:=mkIr (P:=Ga) (f:=92) _ (by unfold Je;rw[Tryz.func92];conv=>lhs;cbv)
theorem c92_ok:Je Ga 92=some c92:=by kernel_rfl
def c93:IFunc:=mkIr (P:=Ga) (f:=93) _ (by unfold Je;rw[Tryz.func93];conv=>lhs;cbv)
theorem c93_ok:Je Ga 93=some c93:=by kernel_rfl
def c94:IFunc:=mkIr (P:=Ga) (f:=94) _ (by unfold Je;rw[Tryz.func94];conv=>lhs;cbv)
theorem c94_ok:Je Ga 94=some c94:=by kernel_rfl
def c95:IFunc:=mkIr (P:=Ga) (f:=95) _ (by unfold Je;rw[Tryz.func95];conv=>lhs;cbv)
theorem c95_ok:Je Ga 95=some c95:=by kernel_rfl
def c96:IFunc:=mkIr (P:=Ga) (f:=96) _ (by unfold Je;rw[Tryz.func96];conv=>lhs;cbv)
theorem c96_ok:Je Ga 96=some c96:=by kernel_rfl
def c97:IFunc:=mkIr (P:=Ga) (f:=97) _ (by unfold Je;rw[Tryz.func97];conv=>lhs;cbv)
theorem c97_ok:Je Ga 97=some c97:=by kernel_rfl
def c98:IFunc:=mkIr (P:=Ga) (f:=98) _ (by unfold Je;rw[Tryz.func98];conv=>lhs;cbv)
theorem c98_ok:Je Ga 98=some c98:=by kernel_rfl
def c99:IFunc:=mkIr (P:=Ga) (f:=99) _ (by unfold Je;rw[Tryz.func99];conv=>lhs;cbv)
theorem c99_ok:Je Ga 99=some c99:=by kernel_rfl
def c100:IFunc:=mkIr (P:=Ga) (f:=100) _ (by unfold Je;rw[Tryz.func100];conv=>lhs;cbv)
theorem c100_ok:Je Ga 100=some c100:=by kernel_rfl
def c101:IFunc:=mkIr (P:=Ga) (f:=101) _ (by unfold Je;rw[Tryz.func101];conv=>lhs;cbv)
theorem c101_ok:Je Ga 101=some c101:=by kernel_rfl
def c102:IFunc:=mkIr (P:=Ga) (f:=102) _ (by unfold Je;rw[Tryz.func102];conv=>lhs;cbv)
theorem c102_ok:Je Ga 102=some c102:=by kernel_rfl
def c103:IFunc:=mkIr (P:=Ga) (f:=103) _ (by unfold Je;rw[Tryz.func103];conv=>lhs;cbv)
theorem c103_ok:Je Ga 103=some c103:=by kernel_rfl
def c104:IFunc:=mkIr (P:=Ga) (f:=104) _ (by unfold Je;rw[Tryz.func104];conv=>lhs;cbv)
theorem c104_ok:Je Ga 104=some c104:=by kernel_rfl
def c105:IFunc:=mkIr (P:=Ga) (f:=105) _ (by unfold Je;rw[Tryz.func105];conv=>lhs;cbv)
theorem c105_ok:Je Ga 105=some c105:=by kernel_rfl
def c106:IFunc:=mkIr (P:=Ga) (f:=106) _ (by unfold Je;rw[Tryz.func106];conv=>lhs;cbv)
theorem c106_ok:Je Ga 106=some c106:=by kernel_rfl
def c107:IFunc:=mkIr (P:=Ga) (f:=107) _ (by unfold Je;rw[Tryz.func107];conv=>lhs;cbv)
theorem c107_ok:Je Ga 107=some c107:=by kernel_rfl
def c108:IFunc:=mkIr (P:=Ga) (f:=108) _ (by unfold Je;rw[Tryz.func108];conv=>lhs;cbv)
theorem c108_ok:Je Ga 108=some c108:=by kernel_rfl
def c109:IFunc:=mkIr (P:=Ga) (f:=109) _ (by unfold Je;rw[Tryz.func109];conv=>lhs;cbv)
theorem c109_ok:Je Ga 109=some c109:=by kernel_rfl
def c110:IFunc:=mkIr (P:=Ga) (f:=110) _ (by unfold Je;rw[Tryz.func110];conv=>lhs;cbv)
theorem c110_ok:Je Ga 110=some c110:=by kernel_rfl
def c111:IFunc:=mkIr (P:=Ga) (f:=111) _ (by unfold Je;rw[Tryz.func111];conv=>lhs;cbv)
theorem c111_ok:Je Ga 111=some c111:=by kernel_rfl
def c112:IFunc:=mkIr (P:=Ga) (f:=112) _ (by unfold Je;rw[Tryz.func112];conv=>lhs;cbv)
theorem c112_ok:Je Ga 112=some c112:=by kernel_rfl
def c113:IFunc:=mkIr (P:=Ga) (f:=113) _ (by unfold Je;rw[Tryz.func113];conv=>lhs;cbv)
theorem c113_ok:Je Ga 113=some c113:=by kernel_rfl
def c114:IFunc:=mkIr (P:=Ga) (f:=114) _ (by unfold Je;rw[Tryz.func114];conv=>lhs;cbv)
theorem c114_ok:Je Ga 114=some c114:=by kernel_rfl
def c115:IFunc:=mkIr (P:=Ga) (f:=115) _ (by unfold Je;rw[Tryz.func115];conv=>lhs;cbv)
theorem c115_ok:Je Ga 115=some c115:=by kernel_rfl
def c116:IFunc:=mkIr (P:=Ga) (f:=116) _ (by unfold Je;rw[Tryz.func116];conv=>lhs;cbv)
theorem c116_ok:Je Ga 116=some c116:=by kernel_rfl
def c117:IFunc:=mkIr (P:=Ga) (f:=117) _ (by unfold Je;rw[Tryz.func117];conv=>lhs;cbv)
theorem c117_ok:Je Ga 117=some c117:=by kernel_rfl
def c118:IFunc:=mkIr (P:=Ga) (f:=118) _ (by unfold Je;rw[Tryz.func118];conv=>lhs;cbv)
theorem c118_ok:Je Ga 118=some c118:=by kernel_rfl
def c119:IFunc:=mkIr (P:=Ga) (f:=119) _ (by unfold Je;rw[Tryz.func119];conv=>lhs;cbv)
theorem c119_ok:Je Ga 119=some c119:=by kernel_rfl
def c120:IFunc:=mkIr (P:=Ga) (f:=120) _ (by unfold Je;rw[Tryz.func120];conv=>lhs;cbv)
theorem c120_ok:Je Ga 120=some c120:=by kernel_rfl
def c121:IFunc:=mkIr (P:=Ga) (f:=121) _ (by unfold Je;rw[Tryz.func121];conv=>lhs;cbv)
theorem c121_ok:Je Ga 121=some c121:=by kernel_rfl
def c122:IFunc:=mkIr (P:=Ga) (f:=122) _ (by unfold Je;rw[Tryz.func122];conv=>lhs;cbv)
theorem c122_ok:Je Ga 122=some c122:=by kernel_rfl
def c123:IFunc:=mkIr (P:=Ga) (f:=123) _ (by unfold Je;rw[Tryz.func123];conv=>lhs;cbv)
theorem c123_ok:Je Ga 123=some c123:=by kernel_rfl
def c124:IFunc:=mkIr (P:=Ga) (f:=124) _ (by unfold Je;rw[Tryz.func124];conv=>lhs;cbv)
theorem c124_ok:Je Ga 124=some c124:=by kernel_rfl
def c125:IFunc:=mkIr (P:=Ga) (f:=125) _ (by unfold Je;rw[Tryz.func125];conv=>lhs;cbv)
theorem c125_ok:Je Ga 125=some c125:=by kernel_rfl
def c126:IFunc:=mkIr (P:=Ga) (f:=126) _ (by unfold Je;rw[Tryz.func126];conv=>lhs;cbv)
theorem c126_ok:Je Ga 126=some c126:=by kernel_rfl
def c127:IFunc:=mkIr (P:=Ga) (f:=127) _ (by unfold Je;rw[Tryz.func127];conv=>lhs;cbv)
theorem c127_ok:Je Ga 127=some c127:=by kernel_rfl
def c128:IFunc:=mkIr (P:=Ga) (f:=128) _ (by unfold Je;rw[Tryz.func128];conv=>lhs;cbv)
theorem c128_ok:Je Ga 128=some c128:=by kernel_rfl
def c129:IFunc:=mkIr (P:=Ga) (f:=129) _ (by unfold Je;rw[Tryz.func129];conv=>lhs;cbv)
theorem c129_ok:Je Ga 129=some c129:=by kernel_rfl
def c130:IFunc:=mkIr (P:=Ga) (f:=130) _ (by unfold Je;rw[Tryz.func130];conv=>lhs;cbv)
theorem c130_ok:Je Ga 130=some c130:=by kernel_rfl
def c131:IFunc:=mkIr (P:=Ga) (f:=131) _ (by unfold Je;rw[Tryz.func131];conv=>lhs;cbv)
theorem c131_ok:Je Ga 131=some c131:=by kernel_rfl
def c132:IFunc:=mkIr (P:=Ga) (f:=132) _ (by unfold Je;rw[Tryz.func132];conv=>lhs;cbv)
theorem c132_ok:Je Ga 132=some c132:=by kernel_rfl
def c133:IFunc:=mkIr (P:=Ga) (f:=133) _ (by unfold Je;rw[Tryz.func133];conv=>lhs;cbv)
theorem c133_ok:Je Ga 133=some c133:=by kernel_rfl
def c134:IFunc:=mkIr (P:=Ga) (f:=134) _ (by unfold Je;rw[Tryz.func134];conv=>lhs;cbv)
theorem c134_ok:Je Ga 134=some c134:=by kernel_rfl
def c135:IFunc:=mkIr (P:=Ga) (f:=135) _ (by unfold Je;rw[Tryz.func135];conv=>lhs;cbv)
theorem c135_ok:Je Ga 135=some c135:=by kernel_rfl
def c136:IFunc:=mkIr (P:=Ga) (f:=136) _ (by unfold Je;rw[Tryz.func136];conv=>lhs;cbv)
theorem c136_ok:Je Ga 136=some c136:=by kernel_rfl
def c137:IFunc:=mkIr (P:=Ga) (f:=137) _ (by unfold Je;rw[Tryz.func137];conv=>lhs;cbv)
theorem c137_ok:Je Ga 137=some c137:=by kernel_rfl
def c138:IFunc:=mkIr (P:=Ga) (f:=138) _ (by unfold Je;rw[Tryz.func138];conv=>lhs;cbv)
theorem c138_ok:Je Ga 138=some c138:=by kernel_rfl
def c139:IFunc:=mkIr (P:=Ga) (f:=139) _ (by unfold Je;rw[Tryz.func139];conv=>lhs;cbv)
theorem c139_ok:Je Ga 139=some c139:=by kernel_rfl
def c140:IFunc:=mkIr (P:=Ga) (f:=140) _ (by unfold Je;rw[Tryz.func140];conv=>lhs;cbv)
theorem c140_ok:Je Ga 140=some c140:=by kernel_rfl
def c142:IFunc:=mkIr (P:=Ga) (f:=142) _ (by unfold Je;rw[Tryz.func142];conv=>lhs;cbv)
theorem c142_ok:Je Ga 142=some c142:=by kernel_rfl
def c143:IFunc:=mkIr (P:=Ga) (f:=143) _ (by unfold Je;rw[Tryz.func143];conv=>lhs;cbv)
theorem c143_ok:Je Ga 143=some c143:=by kernel_rfl
def c144:IFunc:=mkIr (P:=Ga) (f:=144) _ (by unfold Je;rw[Tryz.func144];conv=>lhs;cbv)
theorem c144_ok:Je Ga 144=some c144:=by kernel_rfl
def c146:IFunc:=mkIr (P:=Ga) (f:=146) _ (by unfold Je;rw[Tryz.func146];conv=>lhs;cbv)
theorem c146_ok:Je Ga 146=some c146:=by kernel_rfl
def c147:IFunc:=mkIr (P:=Ga) (f:=147) _ (by unfold Je;rw[Tryz.func147];conv=>lhs;cbv)
theorem c147_ok:Je Ga 147=some c147:=by kernel_rfl
def c148:IFunc:=mkIr (P:=Ga) (f:=148) _ (by unfold Je;rw[Tryz.func148];conv=>lhs;cbv)
theorem c148_ok:Je Ga 148=some c148:=by kernel_rfl
def c150:IFunc:=mkIr (P:=Ga) (f:=150) _ (by unfold Je;rw[Tryz.func150];conv=>lhs;cbv)
theorem c150_ok:Je Ga 150=some c150:=by kernel_rfl
def c151:IFunc:=mkIr (P:=Ga) (f:=151) _ (by unfold Je;rw[Tryz.func151];conv=>lhs;cbv)
theorem c151_ok:Je Ga 151=some c151:=by kernel_rfl
def c152:IFunc:=mkIr (P:=Ga) (f:=152) _ (by unfold Je;rw[Tryz.func152];conv=>lhs;cbv)
theorem c152_ok:Je Ga 152=some c152:=by kernel_rfl
def c153:IFunc:=mkIr (P:=Ga) (f:=153) _ (by unfold Je;rw[Tryz.func153];conv=>lhs;cbv)
theorem c153_ok:Je Ga 153=some c153:=by kernel_rfl
def c154:IFunc:=mkIr (P:=Ga) (f:=154) _ (by unfold Je;rw[Tryz.func154];conv=>lhs;cbv)
theorem c154_ok:Je Ga 154=some c154:=by kernel_rfl
def c155:IFunc:=mkIr (P:=Ga) (f:=155) _ (by unfold Je;rw[Tryz.func155];conv=>lhs;cbv)
theorem c155_ok:Je Ga 155=some c155:=by kernel_rfl
def c156:IFunc:=mkIr (P:=Ga) (f:=156) _ (by unfold Je;rw[Tryz.func156];conv=>lhs;cbv)
theorem c156_ok:Je Ga 156=some c156:=by kernel_rfl
def c157:IFunc:=mkIr (P:=Ga) (f:=157) _ (by unfold Je;rw[Tryz.func157];conv=>lhs;cbv)
theorem c157_ok:Je Ga 157=some c157:=by kernel_rfl
end Go.Cm
end
end
