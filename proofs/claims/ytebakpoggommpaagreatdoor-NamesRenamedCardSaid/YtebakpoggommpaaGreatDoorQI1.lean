/-
  A part of the proof. Conditions: none.
-/
import Derived.Test.YtebakpoggommpaaGreatDoorQA1
import Derived.Test.YtebakpoggommpaaGreatDoorProg
set_option linter.unusedSimpArgs false
set_option linter.unusedVariables false
open Go.Proofs.Tryz renaming prog→Ga
noncomputable section
section
set_option maxRecDepth 100000
open Go.Proofs
namespace Go.Cm
@[reducible] def mkIr{P:Go.Program}{f:Nat}(F:IFunc)(_:Jg P f=some F):IFunc:=F
def c6:IFunc:=mkIr (P:=Ga) (f:=6) _ (by unfold Jg;rw[Tryz.func6];conv=>lhs;cbv)
theorem c6_ok:Jg Ga 6=some c6:=by kernel_rfl
def c7:IFunc:=mkIr (P:=Ga) (f:=7) _ (by unfold Jg;rw[Tryz.func7];conv=>lhs;cbv)
theorem c7_ok:Jg Ga 7=some c7:=by kernel_rfl
def c8:IFunc:=mkIr (P:=Ga) (f:=8) _ (by unfold Jg;rw[Tryz.func8];conv=>lhs;cbv)
theorem c8_ok:Jg Ga 8=some c8:=by kernel_rfl
def c9:IFunc:=mkIr (P:=Ga) (f:=9) _ (by unfold Jg;rw[Tryz.func9];conv=>lhs;cbv)
theorem c9_ok:Jg Ga 9=some c9:=by kernel_rfl
def c10:IFunc:=mkIr (P:=Ga) (f:=10) _ (by unfold Jg;rw[Tryz.func10];conv=>lhs;cbv)
theorem c10_ok:Jg Ga 10=some c10:=by kernel_rfl
def c11:IFunc:=mkIr (P:=Ga) (f:=11) _ (by unfold Jg;rw[Tryz.func11];conv=>lhs;cbv)
theorem c11_ok:Jg Ga 11=some c11:=by kernel_rfl
def c13:IFunc:=mkIr (P:=Ga) (f:=13) _ (by unfold Jg;rw[Tryz.func13];conv=>lhs;cbv)
theorem c13_ok:Jg Ga 13=some c13:=by kernel_rfl
def c14:IFunc:=mkIr (P:=Ga) (f:=14) _ (by unfold Jg;rw[Tryz.func14];conv=>lhs;cbv)
theorem c14_ok:Jg Ga 14=some c14:=by kernel_rfl
def c15:IFunc:=mkIr (P:=Ga) (f:=15) _ (by unfold Jg;rw[Tryz.func15];conv=>lhs;cbv)
theorem c15_ok:Jg Ga 15=some c15:=by kernel_rfl
def c16:IFunc:=mkIr (P:=Ga) (f:=16) _ (by unfold Jg;rw[Tryz.func16];conv=>lhs;cbv)
theorem c16_ok:Jg Ga 16=some c16:=by kernel_rfl
def c20:IFunc:=mkIr (P:=Ga) (f:=20) _ (by unfold Jg;rw[Tryz.func20];conv=>lhs;cbv)
theorem c20_ok:Jg Ga 20=some c20:=by kernel_rfl
def c21:IFunc:=mkIr (P:=Ga) (f:=21) _ (by unfold Jg;rw[Tryz.func21];conv=>lhs;cbv)
theorem c21_ok:Jg Ga 21=some c21:=by kernel_rfl
def c22:IFunc:=mkIr (P:=Ga) (f:=22) _ (by unfold Jg;rw[Tryz.func22];conv=>lhs;cbv)
theorem c22_ok:Jg Ga 22=some c22:=by kernel_rfl
def c25:IFunc:=mkIr (P:=Ga) (f:=25) _ (by unfold Jg;rw[Tryz.func25];conv=>lhs;cbv)
theorem c25_ok:Jg Ga 25=some c25:=by kernel_rfl
def c28:IFunc:=mkIr (P:=Ga) (f:=28) _ (by unfold Jg;rw[Tryz.func28];conv=>lhs;cbv)
theorem c28_ok:Jg Ga 28=some c28:=by kernel_rfl
def c29:IFunc:=mkIr (P:=Ga) (f:=29) _ (by unfold Jg;rw[Tryz.func29];conv=>lhs;cbv)
theorem c29_ok:Jg Ga 29=some c29:=by kernel_rfl
def c30:IFunc:=mkIr (P:=Ga) (f:=30) _ (by unfold Jg;rw[Tryz.func30];conv=>lhs;cbv)
theorem c30_ok:Jg Ga 30=some c30:=by kernel_rfl
def c31:IFunc:=mkIr (P:=Ga) (f:=31) _ (by unfold Jg;rw[Tryz.func31];conv=>lhs;cbv)
theorem c31_ok:Jg Ga 31=some c31:=by kernel_rfl
def c32:IFunc:=mkIr (P:=Ga) (f:=32) _ (by unfold Jg;rw[Tryz.func32];conv=>lhs;cbv)
theorem c32_ok:Jg Ga 32=some c32:=by kernel_rfl
def c33:IFunc:=mkIr (P:=Ga) (f:=33) _ (by unfold Jg;rw[Tryz.func33];conv=>lhs;cbv)
theorem c33_ok:Jg Ga 33=some c33:=by kernel_rfl
def c34:IFunc:=mkIr (P:=Ga) (f:=34) _ (by unfold Jg;rw[Tryz.func34];conv=>lhs;cbv)
theorem c34_ok:Jg Ga 34=some c34:=by kernel_rfl
def c35:IFunc:=mkIr (P:=Ga) (f:=35) _ (by unfold Jg;rw[Tryz.func35];conv=>lhs;cbv)
theorem c35_ok:Jg Ga 35=some c35:=by kernel_rfl
def c36:IFunc:=mkIr (P:=Ga) (f:=36) _ (by unfold Jg;rw[Tryz.func36];conv=>lhs;cbv)
theorem c36_ok:Jg Ga 36=some c36:=by kernel_rfl
def c37:IFunc:=mkIr (P:=Ga) (f:=37) _ (by unfold Jg;rw[Tryz.func37];conv=>lhs;cbv)
theorem c37_ok:Jg Ga 37=some c37:=by kernel_rfl
def c38:IFunc:=mkIr (P:=Ga) (f:=38) _ (by unfold Jg;rw[Tryz.func38];conv=>lhs;cbv)
theorem c38_ok:Jg Ga 38=some c38:=by kernel_rfl
def c39:IFunc:=mkIr (P:=Ga) (f:=39) _ (by unfold Jg;rw[Tryz.func39];conv=>lhs;cbv)
theorem c39_ok:Jg Ga 39=some c39:=by kernel_rfl
def c40:IFunc:=mkIr (P:=Ga) (f:=40) _ (by unfold Jg;rw[Tryz.func40];conv=>lhs;cbv)
theorem c40_ok:Jg Ga 40=some c40:=by kernel_rfl
def c41:IFunc:=mkIr (P:=Ga) (f:=41) _ (by unfold Jg;rw[Tryz.func41];conv=>lhs;cbv)
theorem c41_ok:Jg Ga 41=some c41:=by kernel_rfl
def c42:IFunc:=mkIr (P:=Ga) (f:=42) _ (by unfold Jg;rw[Tryz.func42];conv=>lhs;cbv)
theorem c42_ok:Jg Ga 42=some c42:=by kernel_rfl
def c43:IFunc:=mkIr (P:=Ga) (f:=43) _ (by unfold Jg;rw[Tryz.func43];conv=>lhs;cbv)
theorem c43_ok:Jg Ga 43=some c43:=by kernel_rfl
def c44:IFunc:=mkIr (P:=Ga) (f:=44) _ (by unfold Jg;rw[Tryz.func44];conv=>lhs;cbv)
theorem c44_ok:Jg Ga 44=some c44:=by kernel_rfl
def c45:IFunc:=mkIr (P:=Ga) (f:=45) _ (by unfold Jg;rw[Tryz.func45];conv=>lhs;cbv)
theorem c45_ok:Jg Ga 45=some c45:=by kernel_rfl
def c46:IFunc:=mkIr (P:=Ga) (f:=46) _ (by unfold Jg;rw[Tryz.func46];conv=>lhs;cbv)
def c47:IFunc:=mkIr (P:=Ga) (f:=47) _ (by unfold Jg;rw[Tryz.func47];conv=>lhs;cbv)
theorem c47_ok:Jg Ga 47=some c47:=by kernel_rfl
def c48:IFunc:=mkIr (P:=Ga) (f:=48) _ (by unfold Jg;rw[Tryz.func48];conv=>lhs;cbv)
theorem c48_ok:Jg Ga 48=some c48:=by kernel_rfl
def c49:IFunc:=mkIr (P:=Ga) (f:=49) _ (by unfold Jg;rw[Tryz.func49];conv=>lhs;cbv)
theorem c49_ok:Jg Ga 49=some c49:=by kernel_rfl
def c50:IFunc:=mkIr (P:=Ga) (f:=50) _ (by unfold Jg;rw[Tryz.func50];conv=>lhs;cbv)
theorem c50_ok:Jg Ga 50=some c50:=by kernel_rfl
def c51:IFunc:=mkIr (P:=Ga) (f:=51) _ (by unfold Jg;rw[Tryz.func51];conv=>lhs;cbv)
theorem c51_ok:Jg Ga 51=some c51:=by kernel_rfl
def c52:IFunc:=mkIr (P:=Ga) (f:=52) _ (by unfold Jg;rw[Tryz.func52];conv=>lhs;cbv)
theorem c52_ok:Jg Ga 52=some c52:=by kernel_rfl
def c53:IFunc:=mkIr (P:=Ga) (f:=53) _ (by unfold Jg;rw[Tryz.func53];conv=>lhs;cbv)
def c55:IFunc:=mkIr (P:=Ga) (f:=55) _ (by unfold Jg;rw[Tryz.func55];conv=>lhs;cbv)
theorem c55_ok:Jg Ga 55=some c55:=by kernel_rfl
def c58:IFunc:=mkIr (P:=Ga) (f:=58) _ (by unfold Jg;rw[Tryz.func58];conv=>lhs;cbv)
theorem c58_ok:Jg Ga 58=some c58:=by kernel_rfl
def c59:IFunc:=mkIr (P:=Ga) (f:=59) _ (by unfold Jg;rw[Tryz.func59];conv=>lhs;cbv)
theorem c59_ok:Jg Ga 59=some c59:=by kernel_rfl
def c60:IFunc:=mkIr (P:=Ga) (f:=60) _ (by unfold Jg;rw[Tryz.func60];conv=>lhs;cbv)
theorem c60_ok:Jg Ga 60=some c60:=by kernel_rfl
def c61:IFunc:=mkIr (P:=Ga) (f:=61) _ (by unfold Jg;rw[Tryz.func61];conv=>lhs;cbv)
theorem c61_ok:Jg Ga 61=some c61:=by kernel_rfl
def c62:IFunc:=mkIr (P:=Ga) (f:=62) _ (by unfold Jg;rw[Tryz.func62];conv=>lhs;cbv)
theorem c62_ok:Jg Ga 62=some c62:=by kernel_rfl
def c63:IFunc:=mkIr (P:=Ga) (f:=63) _ (by unfold Jg;rw[Tryz.func63];conv=>lhs;cbv)
theorem c63_ok:Jg Ga 63=some c63:=by kernel_rfl
def c66:IFunc:=mkIr (P:=Ga) (f:=66) _ (by unfold Jg;rw[Tryz.func66];conv=>lhs;cbv)
theorem c66_ok:Jg Ga 66=some c66:=by kernel_rfl
def c68:IFunc:=mkIr (P:=Ga) (f:=68) _ (by unfold Jg;rw[Tryz.func68];conv=>lhs;cbv)
theorem c68_ok:Jg Ga 68=some c68:=by kernel_rfl
def c69:IFunc:=mkIr (P:=Ga) (f:=69) _ (by unfold Jg;rw[Tryz.func69];conv=>lhs;cbv)
theorem c69_ok:Jg Ga 69=some c69:=by kernel_rfl
def c70:IFunc:=mkIr (P:=Ga) (f:=70) _ (by unfold Jg;rw[Tryz.func70];conv=>lhs;cbv)
theorem c70_ok:Jg Ga 70=some c70:=by kernel_rfl
def c71:IFunc:=mkIr (P:=Ga) (f:=71) _ (by unfold Jg;rw[Tryz.func71];conv=>lhs;cbv)
theorem c71_ok:Jg Ga 71=some c71:=by kernel_rfl
def c72:IFunc:=mkIr (P:=Ga) (f:=72) _ (by unfold Jg;rw[Tryz.func72];conv=>lhs;cbv)
theorem c72_ok:Jg Ga 72=some c72:=by kernel_rfl
def c73:IFunc:=mkIr (P:=Ga) (f:=73) _ (by unfold Jg;rw[Tryz.func73];conv=>lhs;cbv)
theorem c73_ok:Jg Ga 73=some c73:=by kernel_rfl
def c74:IFunc:=mkIr (P:=Ga) (f:=74) _ (by unfold Jg;rw[Tryz.func74];conv=>lhs;cbv)
theorem c74_ok:Jg Ga 74=some c74:=by kernel_rfl
def c75:IFunc:=mkIr (P:=Ga) (f:=75) _ (by unfold Jg;rw[Tryz.func75];conv=>lhs;cbv)
theorem c75_ok:Jg Ga 75=some c75:=by kernel_rfl
def c76:IFunc:=mkIr (P:=Ga) (f:=76) _ (by unfold Jg;rw[Tryz.func76];conv=>lhs;cbv)
theorem c76_ok:Jg Ga 76=some c76:=by kernel_rfl
def c77:IFunc:=mkIr (P:=Ga) (f:=77) _ (by unfold Jg;rw[Tryz.func77];conv=>lhs;cbv)
theorem c77_ok:Jg Ga 77=some c77:=by kernel_rfl
def c78:IFunc:=mkIr (P:=Ga) (f:=78) _ (by unfold Jg;rw[Tryz.func78];conv=>lhs;cbv)
theorem c78_ok:Jg Ga 78=some c78:=by kernel_rfl
def c79:IFunc:=mkIr (P:=Ga) (f:=79) _ (by unfold Jg;rw[Tryz.func79];conv=>lhs;cbv)
theorem c79_ok:Jg Ga 79=some c79:=by kernel_rfl
def c80:IFunc:=mkIr (P:=Ga) (f:=80) _ (by unfold Jg;rw[Tryz.func80];conv=>lhs;cbv)
theorem c80_ok:Jg Ga 80=some c80:=by kernel_rfl
def c81:IFunc:=mkIr (P:=Ga) (f:=81) _ (by unfold Jg;rw[Tryz.func81];conv=>lhs;cbv)
theorem c81_ok:Jg Ga 81=some c81:=by kernel_rfl
def c83:IFunc:=mkIr (P:=Ga) (f:=83) _ (by unfold Jg;rw[Tryz.func83];conv=>lhs;cbv)
theorem c83_ok:Jg Ga 83=some c83:=by kernel_rfl
def c84:IFunc:=mkIr (P:=Ga) (f:=84) _ (by unfold Jg;rw[Tryz.func84];conv=>lhs;cbv)
theorem c84_ok:Jg Ga 84=some c84:=by kernel_rfl
def c85:IFunc:=mkIr (P:=Ga) (f:=85) _ (by unfold Jg;rw[Tryz.func85];conv=>lhs;cbv)
theorem c85_ok:Jg Ga 85=some c85:=by kernel_rfl
def c86:IFunc:=mkIr (P:=Ga) (f:=86) _ (by unfold Jg;rw[Tryz.func86];conv=>lhs;cbv)
theorem c86_ok:Jg Ga 86=some c86:=by kernel_rfl
def c87:IFunc:=mkIr (P:=Ga) (f:=87) _ (by unfold Jg;rw[Tryz.func87];conv=>lhs;cbv)
theorem c87_ok:Jg Ga 87=some c87:=by kernel_rfl
def c88:IFunc:=mkIr (P:=Ga) (f:=88) _ (by unfold Jg;rw[Tryz.func88];conv=>lhs;cbv)
theorem c88_ok:Jg Ga 88=some c88:=by kernel_rfl
def c89:IFunc:=mkIr (P:=Ga) (f:=89) _ (by unfold Jg;rw[Tryz.func89];conv=>lhs;cbv)
theorem c89_ok:Jg Ga 89=some c89:=by kernel_rfl
def c90:IFunc:=mkIr (P:=Ga) (f:=90) _ (by unfold Jg;rw[Tryz.func90];conv=>lhs;cbv)
theorem c90_ok:Jg Ga 90=some c90:=by kernel_rfl
def c91:IFunc:=mkIr (P:=Ga) (f:=91) _ (by unfold Jg;rw[Tryz.func91];conv=>lhs;cbv)
theorem c91_ok:Jg Ga 91=some c91:=by kernel_rfl
def c92:IFunc:=mkIr (P:=Ga) (f:=92) _ (by unfold Jg;rw[Tryz.func92];conv=>lhs;cbv)
theorem c92_ok:Jg Ga 92=some c92:=by kernel_rfl
def c93:IFunc:=mkIr (P:=Ga) (f:=93) _ (by unfold Jg;rw[Tryz.func93];conv=>lhs;cbv)
theorem c93_ok:Jg Ga 93=some c93:=by kernel_rfl
def c94:IFunc:=mkIr (P:=Ga) (f:=94) _ (by unfold Jg;rw[Tryz.func94];conv=>lhs;cbv)
theorem c94_ok:Jg Ga 94=some c94:=by kernel_rfl
def c95:IFunc:=mkIr (P:=Ga) (f:=95) _ (by unfold Jg;rw[Tryz.func95];conv=>lhs;cbv)
theorem c95_ok:Jg Ga 95=some c95:=by kernel_rfl
def c96:IFunc:=mkIr (P:=Ga) (f:=96) _ (by unfold Jg;rw[Tryz.func96];conv=>lhs;cbv)
theorem c96_ok:Jg Ga 96=some c96:=by kernel_rfl
def c97:IFunc:=mkIr (P:=Ga) (f:=97) _ (by unfold Jg;rw[Tryz.func97];conv=>lhs;cbv)
theorem c97_ok:Jg Ga 97=some c97:=by kernel_rfl
def c98:IFunc:=mkIr (P:=Ga) (f:=98) _ (by unfold Jg;rw[Tryz.func98];conv=>lhs;cbv)
theorem c98_ok:Jg Ga 98=some c98:=by kernel_rfl
def c99:IFunc:=mkIr (P:=Ga) (f:=99) _ (by unfold Jg;rw[Tryz.func99];conv=>lhs;cbv)
theorem c99_ok:Jg Ga 99=some c99:=by kernel_rfl
def c100:IFunc:=mkIr (P:=Ga) (f:=100) _ (by unfold Jg;rw[Tryz.func100];conv=>lhs;cbv)
theorem c100_ok:Jg Ga 100=some c100:=by kernel_rfl
def c101:IFunc:=mkIr (P:=Ga) (f:=101) _ (by unfold Jg;rw[Tryz.func101];conv=>lhs;cbv)
theorem c101_ok:Jg Ga 101=some c101:=by kernel_rfl
def c104:IFunc:=mkIr (P:=Ga) (f:=104) _ (by unfold Jg;rw[Tryz.func104];conv=>lhs;cbv)
theorem c104_ok:Jg Ga 104=some c104:=by kernel_rfl
def c105:IFunc:=mkIr (P:=Ga) (f:=105) _ (by unfold Jg;rw[Tryz.func105];conv=>lhs;cbv)
theorem c105_ok:Jg Ga 105=some c105:=by kernel_rfl
def c106:IFunc:=mkIr (P:=Ga) (f:=106) _ (by unfold Jg;rw[Tryz.func106];conv=>lhs;cbv)
theorem c106_ok:Jg Ga 106=some c106:=by kernel_rfl
def c107:IFunc:=mkIr (P:=Ga) (f:=107) _ (by unfold Jg;rw[Tryz.func107];conv=>lhs;cbv)
theorem c107_ok:Jg Ga 107=some c107:=by kernel_rfl
def c108:IFunc:=mkIr (P:=Ga) (f:=108) _ (by unfold Jg;rw[Tryz.func108];conv=>lhs;cbv)
theorem c108_ok:Jg Ga 108=some c108:=by kernel_rfl
def c109:IFunc:=mkIr (P:=Ga) (f:=109) _ (by unfold Jg;rw[Tryz.func109];conv=>lhs;cbv)
theorem c109_ok:Jg Ga 109=some c109:=by kernel_rfl
def c110:IFunc:=mkIr (P:=Ga) (f:=110) _ (by unfold Jg;rw[Tryz.func110];conv=>lhs;cbv)
theorem c110_ok:Jg Ga 110=some c110:=by kernel_rfl
def c111:IFunc:=mkIr (P:=Ga) (f:=111) _ (by unfold Jg;rw[Tryz.func111];conv=>lhs;cbv)
theorem c111_ok:Jg Ga 111=some c111:=by kernel_rfl
def c112:IFunc:=mkIr (P:=Ga) (f:=112) _ (by unfold Jg;rw[Tryz.func112];conv=>lhs;cbv)
theorem c112_ok:Jg Ga 112=some c112:=by kernel_rfl
def c113:IFunc:=mkIr (P:=Ga) (f:=113) _ (by unfold Jg;rw[Tryz.func113];conv=>lhs;cbv)
theorem c113_ok:Jg Ga 113=some c113:=by kernel_rfl
def c114:IFunc:=mkIr (P:=Ga) (f:=114) _ (by unfold Jg;rw[Tryz.func114];conv=>lhs;cbv)
theorem c114_ok:Jg Ga 114=some c114:=by kernel_rfl
def c115:IFunc:=mkIr (P:=Ga) (f:=115) _ (by unfold Jg;rw[Tryz.func115];conv=>lhs;cbv)
theorem c115_ok:Jg Ga 115=some c115:=by kernel_rfl
def c116:IFunc:=mkIr (P:=Ga) (f:=116) _ (by unfold Jg;rw[Tryz.func116];conv=>lhs;cbv)
theorem c116_ok:Jg Ga 116=some c116:=by kernel_rfl
def c117:IFunc:=mkIr (P:=Ga) (f:=117) _ (by unfold Jg;rw[Tryz.func117];conv=>lhs;cbv)
theorem c117_ok:Jg Ga 117=some c117:=by kernel_rfl
def c118:IFunc:=mkIr (P:=Ga) (f:=118) _ (by unfold Jg;rw[Tryz.func118];conv=>lhs;cbv)
theorem c118_ok:Jg Ga 118=some c118:=by kernel_rfl
def c119:IFunc:=mkIr (P:=Ga) (f:=119) _ (by unfold Jg;rw[Tryz.func119];conv=>lhs;cbv)
theorem c119_ok:Jg Ga 119=some c119:=by kernel_rfl
def c120:IFunc:=mkIr (P:=Ga) (f:=120) _ (by unfold Jg;rw[Tryz.func120];conv=>lhs;cbv)
theorem c120_ok:Jg Ga 120=some c120:=by kernel_rfl
def c121:IFunc:=mkIr (P:=Ga) (f:=121) _ (by unfold Jg;rw[Tryz.func121];conv=>lhs;cbv)
theorem c121_ok:Jg Ga 121=some c121:=by kernel_rfl
def c122:IFunc:=mkIr (P:=Ga) (f:=122) _ (by unfold Jg;rw[Tryz.func122];conv=>lhs;cbv)
theorem c122_ok:Jg Ga 122=some c122:=by kernel_rfl
def c123:IFunc:=mkIr (P:=Ga) (f:=123) _ (by unfold Jg;rw[Tryz.func123];conv=>lhs;cbv)
theorem c123_ok:Jg Ga 123=some c123:=by kernel_rfl
def c124:IFunc:=mkIr (P:=Ga) (f:=124) _ (by unfold Jg;rw[Tryz.func124];conv=>lhs;cbv)
theorem c124_ok:Jg Ga 124=some c124:=by kernel_rfl
def c125:IFunc:=mkIr (P:=Ga) (f:=125) _ (by unfold Jg;rw[Tryz.func125];conv=>lhs;cbv)
theorem c125_ok:Jg Ga 125=some c125:=by kernel_rfl
def c126:IFunc:=mkIr (P:=Ga) (f:=126) _ (by unfold Jg;rw[Tryz.func126];conv=>lhs;cbv)
theorem c126_ok:Jg Ga 126=some c126:=by kernel_rfl
def c127:IFunc:=mkIr (P:=Ga) (f:=127) _ (by unfold Jg;rw[Tryz.func127];conv=>lhs;cbv)
theorem c127_ok:Jg Ga 127=some c127:=by kernel_rfl
def c128:IFunc:=mkIr (P:=Ga) (f:=128) _ (by unfold Jg;rw[Tryz.func128];conv=>lhs;cbv)
theorem c128_ok:Jg Ga 128=some c128:=by kernel_rfl
def c129:IFunc:=mkIr (P:=Ga) (f:=129) _ (by unfold Jg;rw[Tryz.func129];conv=>lhs;cbv)
theorem c129_ok:Jg Ga 129=some c129:=by kernel_rfl
def c130:IFunc:=mkIr (P:=Ga) (f:=130) _ (by unfold Jg;rw[Tryz.func130];conv=>lhs;cbv)
theorem c130_ok:Jg Ga 130=some c130:=by kernel_rfl
def c142:IFunc:=mkIr (P:=Ga) (f:=142) _ (by unfold Jg;rw[Tryz.func142];conv=>lhs;cbv)
theorem c142_ok:Jg Ga 142=some c142:=by kernel_rfl
def c143:IFunc:=mkIr (P:=Ga) (f:=143) _ (by unfold Jg;rw[Tryz.func143];conv=>lhs;cbv)
theorem c143_ok:Jg Ga 143=some c143:=by kernel_rfl
def c144:IFunc:=mkIr (P:=Ga) (f:=144) _ (by unfold Jg;rw[Tryz.func144];conv=>lhs;cbv)
theorem c144_ok:Jg Ga 144=some c144:=by kernel_rfl
def c145:IFunc:=mkIr (P:=Ga) (f:=145) _ (by unfold Jg;rw[Tryz.func145];conv=>lhs;cbv)
theorem c145_ok:Jg Ga 145=some c145:=by kernel_rfl
def c146:IFunc:=mkIr (P:=Ga) (f:=146) _ (by unfold Jg;rw[Tryz.func146];conv=>lhs;cbv)
theorem c146_ok:Jg Ga 146=some c146:=by kernel_rfl
def c147:IFunc:=mkIr (P:=Ga) (f:=147) _ (by unfold Jg;rw[Tryz.func147];conv=>lhs;cbv)
theorem c147_ok:Jg Ga 147=some c147:=by kernel_rfl
def c148:IFunc:=mkIr (P:=Ga) (f:=148) _ (by unfold Jg;rw[Tryz.func148];conv=>lhs;cbv)
theorem c148_ok:Jg Ga 148=some c148:=by kernel_rfl
def c150:IFunc:=mkIr (P:=Ga) (f:=150) _ (by unfold Jg;rw[Tryz.func150];conv=>lhs;cbv)
theorem c150_ok:Jg Ga 150=some c150:=by kernel_rfl
def c151:IFunc:=mkIr (P:=Ga) (f:=151) _ (by unfold Jg;rw[Tryz.func151];conv=>lhs;cbv)
theorem c151_ok:Jg Ga 151=some c151:=by kernel_rfl
def c152:IFunc:=mkIr (P:=Ga) (f:=152) _ (by unfold Jg;rw[Tryz.func152];conv=>lhs;cbv)
theorem c152_ok:Jg Ga 152=some c152:=by kernel_rfl
def c153:IFunc:=mkIr (P:=Ga) (f:=153) _ (by unfold Jg;rw[Tryz.func153];conv=>lhs;cbv)
theorem c153_ok:Jg Ga 153=some c153:=by kernel_rfl
def c154:IFunc:=mkIr (P:=Ga) (f:=154) _ (by unfold Jg;rw[Tryz.func154];conv=>lhs;cbv)
theorem c154_ok:Jg Ga 154=some c154:=by kernel_rfl
def c155:IFunc:=mkIr (P:=Ga) (f:=155) _ (by unfold Jg;rw[Tryz.func155];conv=>lhs;cbv)
theorem c155_ok:Jg Ga 155=some c155:=by kernel_rfl
def c156:IFunc:=mkIr (P:=Ga) (f:=156) _ (by unfold Jg;rw[Tryz.func156];conv=>lhs;cbv)
theorem c156_ok:Jg Ga 156=some c156:=by kernel_rfl
def c158:IFunc:=mkIr (P:=Ga) (f:=158) _ (by unfold Jg;rw[Tryz.func158];conv=>lhs;cbv)
theorem c158_ok:Jg Ga 158=some c158:=by kernel_rfl
def c159:IFunc:=mkIr (P:=Ga) (f:=159) _ (by unfold Jg;rw[Tryz.func159];conv=>lhs;cbv)
theorem c159_ok:Jg Ga 159=some c159:=by kernel_rfl
def c160:IFunc:=mkIr (P:=Ga) (f:=160) _ (by unfold Jg;rw[Tryz.func160];conv=>lhs;cbv)
theorem c160_ok:Jg Ga 160=some c160:=by kernel_rfl
def c161:IFunc:=mkIr (P:=Ga) (f:=161) _ (by unfold Jg;rw[Tryz.func161];conv=>lhs;cbv)
theorem c161_ok:Jg Ga 161=some c161:=by kernel_rfl
def c168:IFunc:=mkIr (P:=Ga) (f:=168) _ (by unfold Jg;rw[Tryz.func168];conv=>lhs;cbv)
theorem c168_ok:Jg Ga 168=some c168:=by kernel_rfl
def c169:IFunc:=mkIr (P:=Ga) (f:=169) _ (by unfold Jg;rw[Tryz.func169];conv=>lhs;cbv)
theorem c169_ok:Jg Ga 169=some c169:=by kernel_rfl
def c170:IFunc:=mkIr (P:=Ga) (f:=170) _ (by unfold Jg;rw[Tryz.func170];conv=>lhs;cbv)
theorem c170_ok:Jg Ga 170=some c170:=by kernel_rfl
def c173:IFunc:=mkIr (P:=Ga) (f:=173) _ (by unfold Jg;rw[Tryz.func173];conv=>lhs;cbv)
theorem c173_ok:Jg Ga 173=some c173:=by kernel_rfl
def c174:IFunc:=mkIr (P:=Ga) (f:=174) _ (by unfold Jg;rw[Tryz.func174];conv=>lhs;cbv)
theorem c174_ok:Jg Ga 174=some c174:=by kernel_rfl
def c175:IFunc:=mkIr (P:=Ga) (f:=175) _ (by unfold Jg;rw[Tryz.func175];conv=>lhs;cbv)
theorem c175_ok:Jg Ga 175=some c175:=by kernel_rfl
def c176:IFunc:=mkIr (P:=Ga) (f:=176) _ (by unfold Jg;rw[Tryz.func176];conv=>lhs;cbv)
theorem c176_ok:Jg Ga 176=some c176:=by kernel_rfl
def c177:IFunc:=mkIr (P:=Ga) (f:=177) _ (by unfold Jg;rw[Tryz.func177];conv=>lhs;cbv)
theorem c177_ok:Jg Ga 177=some c177:=by kernel_rfl
def c179:IFunc:=mkIr (P:=Ga) (f:=179) _ (by unfold Jg;rw[Tryz.func179];conv=>lhs;cbv)
theorem c179_ok:Jg Ga 179=some c179:=by kernel_rfl
def c180:IFunc:=mkIr (P:=Ga) (f:=180) _ (by unfold Jg;rw[Tryz.func180];conv=>lhs;cbv)
theorem c180_ok:Jg Ga 180=some c180:=by kernel_rfl
def c181:IFunc:=mkIr (P:=Ga) (f:=181) _ (by unfold Jg;rw[Tryz.func181];conv=>lhs;cbv)
theorem c181_ok:Jg Ga 181=some c181:=by kernel_rfl
def c182:IFunc:=mkIr (P:=Ga) (f:=182) _ (by unfold Jg;rw[Tryz.func182];conv=>lhs;cbv)
theorem c182_ok:Jg Ga 182=some c182:=by kernel_rfl
def c183:IFunc:=mkIr (P:=Ga) (f:=183) _ (by unfold Jg;rw[Tryz.func183];conv=>lhs;cbv)
theorem c183_ok:Jg Ga 183=some c183:=by kernel_rfl
def c184:IFunc:=mkIr (P:=Ga) (f:=184) _ (by unfold Jg;rw[Tryz.func184];conv=>lhs;cbv)
theorem c184_ok:Jg Ga 184=some c184:=by kernel_rfl
def c185:IFunc:=mkIr (P:=Ga) (f:=185) _ (by unfold Jg;rw[Tryz.func185];conv=>lhs;cbv)
theorem c185_ok:Jg Ga 185=some c185:=by kernel_rfl
def c188:IFunc:=mkIr (P:=Ga) (f:=188) _ (by unfold Jg;rw[Tryz.func188];conv=>lhs;cbv)
theorem c188_ok:Jg Ga 188=some c188:=by kernel_rfl
def c190:IFunc:=mkIr (P:=Ga) (f:=190) _ (by unfold Jg;rw[Tryz.func190];conv=>lhs;cbv)
theorem c190_ok:Jg Ga 190=some c190:=by kernel_rfl
def c194:IFunc:=mkIr (P:=Ga) (f:=194) _ (by unfold Jg;rw[Tryz.func194];conv=>lhs;cbv)
theorem c194_ok:Jg Ga 194=some c194:=by kernel_rfl
def c195:IFunc:=mkIr (P:=Ga) (f:=195) _ (by unfold Jg;rw[Tryz.func195];conv=>lhs;cbv)
theorem c195_ok:Jg Ga 195=some c195:=by kernel_rfl
def c196:IFunc:=mkIr (P:=Ga) (f:=196) _ (by unfold Jg;rw[Tryz.func196];conv=>lhs;cbv)
theorem c196_ok:Jg Ga 196=some c196:=by kernel_rfl
def c199:IFunc:=mkIr (P:=Ga) (f:=199) _ (by unfold Jg;rw[Tryz.func199];conv=>lhs;cbv)
theorem c199_ok:Jg Ga 199=some c199:=by kernel_rfl
def c202:IFunc:=mkIr (P:=Ga) (f:=202) _ (by unfold Jg;rw[Tryz.func202];conv=>lhs;cbv)
theorem c202_ok:Jg Ga 202=some c202:=by kernel_rfl
def c203:IFunc:=mkIr (P:=Ga) (f:=203) _ (by unfold Jg;rw[Tryz.func203];conv=>lhs;cbv)
theorem c203_ok:Jg Ga 203=some c203:=by kernel_rfl
def c204:IFunc:=mkIr (P:=Ga) (f:=204) _ (by unfold Jg;rw[Tryz.func204];conv=>lhs;cbv)
theorem c204_ok:Jg Ga 204=some c204:=by kernel_rfl
def c205:IFunc:=mkIr (P:=Ga) (f:=205) _ (by unfold Jg;rw[Tryz.func205];conv=>lhs;cbv)
theorem c205_ok:Jg Ga 205=some c205:=by kernel_rfl
def c206:IFunc:=mkIr (P:=Ga) (f:=206) _ (by unfold Jg;rw[Tryz.func206];conv=>lhs;cbv)
theorem c206_ok:Jg Ga 206=some c206:=by kernel_rfl
def c213:IFunc:=mkIr (P:=Ga) (f:=213) _ (by unfold Jg;rw[Tryz.func213];conv=>lhs;cbv)
theorem c213_ok:Jg Ga 213=some c213:=by kernel_rfl
def c214:IFunc:=mkIr (P:=Ga) (f:=214) _ (by unfold Jg;rw[Tryz.func214];conv=>lhs;cbv)
theorem c214_ok:Jg Ga 214=some c214:=by kernel_rfl
def c215:IFunc:=mkIr (P:=Ga) (f:=215) _ (by unfold Jg;rw[Tryz.func215];conv=>lhs;cbv)
theorem c215_ok:Jg Ga 215=some c215:=by kernel_rfl
def c216:IFunc:=mkIr (P:=Ga) (f:=216) _ (by unfold Jg;rw[Tryz.func216];conv=>lhs;cbv)
theorem c216_ok:Jg Ga 216=some c216:=by kernel_rfl
def c231:IFunc:=mkIr (P:=Ga) (f:=231) _ (by unfold Jg;rw[Tryz.func231];conv=>lhs;cbv)
theorem c231_ok:Jg Ga 231=some c231:=by kernel_rfl
def c232:IFunc:=mkIr (P:=Ga) (f:=232) _ (by unfold Jg;rw[Tryz.func232];conv=>lhs;cbv)
theorem c232_ok:Jg Ga 232=some c232:=by kernel_rfl
def c233:IFunc:=mkIr (P:=Ga) (f:=233) _ (by unfold Jg;rw[Tryz.func233];conv=>lhs;cbv)
theorem c233_ok:Jg Ga 233=some c233:=by kernel_rfl
def c234:IFunc:=mkIr (P:=Ga) (f:=234) _ (by unfold Jg;rw[Tryz.func234];conv=>lhs;cbv)
theorem c234_ok:Jg Ga 234=some c234:=by kernel_rfl
def c244:IFunc:=mkIr (P:=Ga) (f:=244) _ (by unfold Jg;rw[Tryz.func244];conv=>lhs;cbv)
theorem c244_ok:Jg Ga 244=some c244:=by kernel_rfl
def c245:IFunc:=mkIr (P:=Ga) (f:=245) _ (by unfold Jg;rw[Tryz.func245];conv=>lhs;cbv)
theorem c245_ok:Jg Ga 245=some c245:=by kernel_rfl
def c253:IFunc:=mkIr (P:=Ga) (f:=253) _ (by unfold Jg;rw[Tryz.func253];conv=>lhs;cbv)
theorem c253_ok:Jg Ga 253=some c253:=by kernel_rfl
end Go.Cm
end
section
end
end
