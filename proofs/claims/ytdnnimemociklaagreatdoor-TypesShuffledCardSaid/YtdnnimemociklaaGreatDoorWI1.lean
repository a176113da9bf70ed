/-
  A part of the proof. Conditions: none.
-/
import Derived.Test.YtdnnimemociklaaGreatDoorWA1
import Derived.Test.YtdnnimemociklaaGreatDoorProg
set_option linter.unusedSimpArgs false
set_option linter.unusedVariables false
open Go.Proofs.Tryz renaming prog->Ga
noncomputable section
section
set_option maxRecDepth 100000
open Go.Proofs
namespace Go.Cm
@[reducible] def mkIA{P:Go.Program}{f:Nat}(F:IFunc)(_:Jg P f=some F):IFunc:=F
def c4:IFunc:=mkIA (P:=Ga) (f:=4) _ (by unfold Jg;rw[Tryz.func4];conv=>lhs;cbv)
theorem c4_ok:Jg Ga 4=some c4:=vK
def c6:IFunc:=mkIA (P:=Ga) (f:=6) _ (by unfold Jg;rw[Tryz.func6];conv=>lhs;cbv)
theorem c6_ok:Jg Ga 6=some c6:=vK
def c7:IFunc:=mkIA (P:=Ga) (f:=7) _ (by unfold Jg;rw[Tryz.func7];conv=>lhs;cbv)
theorem c7_ok:Jg Ga 7=some c7:=vK
def c8:IFunc:=mkIA (P:=Ga) (f:=8) _ (by unfold Jg;rw[Tryz.func8];conv=>lhs;cbv)
theorem c8_ok:Jg Ga 8=some c8:=vK
def c9:IFunc:=mkIA (P:=Ga) (f:=9) _ (by unfold Jg;rw[Tryz.func9];conv=>lhs;cbv)
theorem c9_ok:Jg Ga 9=some c9:=vK
def c13:IFunc:=mkIA (P:=Ga) (f:=13) _ (by unfold Jg;rw[Tryz.func13];conv=>lhs;cbv)
theorem c13_ok:Jg Ga 13=some c13:=vK
def c14:IFunc:=mkIA (P:=Ga) (f:=14) _ (by unfold Jg;rw[Tryz.func14];conv=>lhs;cbv)
theorem c14_ok:Jg Ga 14=some c14:=vK
def c15:IFunc:=mkIA (P:=Ga) (f:=15) _ (by unfold Jg;rw[Tryz.func15];conv=>lhs;cbv)
theorem c15_ok:Jg Ga 15=some c15:=vK
def c16:IFunc:=mkIA (P:=Ga) (f:=16) _ (by unfold Jg;rw[Tryz.func16];conv=>lhs;cbv)
theorem c16_ok:Jg Ga 16=some c16:=vK
def c17:IFunc:=mkIA (P:=Ga) (f:=17) _ (by unfold Jg;rw[Tryz.func17];conv=>lhs;cbv)
theorem c17_ok:Jg Ga 17=some c17:=vK
def c18:IFunc:=mkIA (P:=Ga) (f:=18) _ (by unfold Jg;rw[Tryz.func18];conv=>lhs;cbv)
theorem c18_ok:Jg Ga 18=some c18:=vK
def c20:IFunc:=mkIA (P:=Ga) (f:=20) _ (by unfold Jg;rw[Tryz.func20];conv=>lhs;cbv)
def c21:IFunc:=mkIA (P:=Ga) (f:=21) _ (by unfold Jg;rw[Tryz.func21];conv=>lhs;cbv)
def c22:IFunc:=mkIA (P:=Ga) (f:=22) _ (by unfold Jg;rw[Tryz.func22];conv=>lhs;cbv)
theorem c22_ok:Jg Ga 22=some c22:=vK
def c25:IFunc:=mkIA (P:=Ga) (f:=25) _ (by unfold Jg;rw[Tryz.func25];conv=>lhs;cbv)
theorem c25_ok:Jg Ga 25=some c25:=vK
def c26:IFunc:=mkIA (P:=Ga) (f:=26) _ (by unfold Jg;rw[Tryz.func26];conv=>lhs;cbv)
theorem c26_ok:Jg Ga 26=some c26:=vK
def c27:IFunc:=mkIA (P:=Ga) (f:=27) _ (by unfold Jg;rw[Tryz.func27];conv=>lhs;cbv)
theorem c27_ok:Jg Ga 27=some c27:=vK
def c28:IFunc:=mkIA (P:=Ga) (f:=28) _ (by unfold Jg;rw[Tryz.func28];conv=>lhs;cbv)
theorem c28_ok:Jg Ga 28=some c28:=vK
def c29:IFunc:=mkIA (P:=Ga) (f:=29) _ (by unfold Jg;rw[Tryz.func29];conv=>lhs;cbv)
theorem c29_ok:Jg Ga 29=some c29:=vK
def c30:IFunc:=mkIA (P:=Ga) (f:=30) _ (by unfold Jg;rw[Tryz.func30];conv=>lhs;cbv)
theorem c30_ok:Jg Ga 30=some c30:=vK
def c31:IFunc:=mkIA (P:=Ga) (f:=31) _ (by unfold Jg;rw[Tryz.func31];conv=>lhs;cbv)
theorem c31_ok:Jg Ga 31=some c31:=vK
def c32:IFunc:=mkIA (P:=Ga) (f:=32) _ (by unfold Jg;rw[Tryz.func32];conv=>lhs;cbv)
theorem c32_ok:Jg Ga 32=some c32:=vK
def c33:IFunc:=mkIA (P:=Ga) (f:=33) _ (by unfold Jg;rw[Tryz.func33];conv=>lhs;cbv)
theorem c33_ok:Jg Ga 33=some c33:=vK
def c36:IFunc:=mkIA (P:=Ga) (f:=36) _ (by unfold Jg;rw[Tryz.func36];conv=>lhs;cbv)
theorem c36_ok:Jg Ga 36=some c36:=vK
def c37:IFunc:=mkIA (P:=Ga) (f:=37) _ (by unfold Jg;rw[Tryz.func37];conv=>lhs;cbv)
theorem c37_ok:Jg Ga 37=some c37:=vK
def c38:IFunc:=mkIA (P:=Ga) (f:=38) _ (by unfold Jg;rw[Tryz.func38];conv=>lhs;cbv)
theorem c38_ok:Jg Ga 38=some c38:=vK
def c39:IFunc:=mkIA (P:=Ga) (f:=39) _ (by unfold Jg;rw[Tryz.func39];conv=>lhs;cbv)
theorem c39_ok:Jg Ga 39=some c39:=vK
def c41:IFunc:=mkIA (P:=Ga) (f:=41) _ (by unfold Jg;rw[Tryz.func41];conv=>lhs;cbv)
theorem c41_ok:Jg Ga 41=some c41:=vK
def c43:IFunc:=mkIA (P:=Ga) (f:=43) _ (by unfold Jg;rw[Tryz.func43];conv=>lhs;cbv)
theorem c43_ok:Jg Ga 43=some c43:=vK
def c44:IFunc:=mkIA (P:=Ga) (f:=44) _ (by unfold Jg;rw[Tryz.func44];conv=>lhs;cbv)
theorem c44_ok:Jg Ga 44=some c44:=vK
def c45:IFunc:=mkIA (P:=Ga) (f:=45) _ (by unfold Jg;rw[Tryz.func45];conv=>lhs;cbv)
theorem c45_ok:Jg Ga 45=some c45:=vK
def c46:IFunc:=mkIA (P:=Ga) (f:=46) _ (by unfold Jg;rw[Tryz.func46];conv=>lhs;cbv)
def c48:IFunc:=mkIA (P:=Ga) (f:=48) _ (by unfold Jg;rw[Tryz.func48];conv=>lhs;cbv)
theorem c48_ok:Jg Ga 48=some c48:=vK
def c49:IFunc:=mkIA (P:=Ga) (f:=49) _ (by unfold Jg;rw[Tryz.func49];conv=>lhs;cbv)
theorem c49_ok:Jg Ga 49=some c49:=vK
def c50:IFunc:=mkIA (P:=Ga) (f:=50) _ (by unfold Jg;rw[Tryz.func50];conv=>lhs;cbv)
theorem c50_ok:Jg Ga 50=some c50:=vK
def c51:IFunc:=mkIA (P:=Ga) (f:=51) _ (by unfold Jg;rw[Tryz.func51];conv=>lhs;cbv)
theorem c51_ok:Jg Ga 51=some c51:=vK
def c52:IFunc:=mkIA (P:=Ga) (f:=52) _ (by unfold Jg;rw[Tryz.func52];conv=>lhs;cbv)
theorem c52_ok:Jg Ga 52=some c52:=vK
def c53:IFunc:=mkIA (P:=Ga) (f:=53) _ (by unfold Jg;rw[Tryz.func53];conv=>lhs;cbv)
theorem c53_ok:Jg Ga 53=some c53:=vK
def c54:IFunc:=mkIA (P:=Ga) (f:=54) _ (by unfold Jg;rw[Tryz.func54];conv=>lhs;cbv)
theorem c54_ok:Jg Ga 54=some c54:=vK
def c55:IFunc:=mkIA (P:=Ga) (f:=55) _ (by unfold Jg;rw[Tryz.func55];conv=>lhs;cbv)
theorem c55_ok:Jg Ga 55=some c55:=vK
def c56:IFunc:=mkIA (P:=Ga) (f:=56) _ (by unfold Jg;rw[Tryz.func56];conv=>lhs;cbv)
theorem c56_ok:Jg Ga 56=some c56:=vK
def c57:IFunc:=mkIA (P:=Ga) (f:=57) _ (by unfold Jg;rw[Tryz.func57];conv=>lhs;cbv)
theorem c57_ok:Jg Ga 57=some c57:=vK
def c58:IFunc:=mkIA (P:=Ga) (f:=58) _ (by unfold Jg;rw[Tryz.func58];conv=>lhs;cbv)
theorem c58_ok:Jg Ga 58=some c58:=vK
def c59:IFunc:=mkIA (P:=Ga) (f:=59) _ (by unfold Jg;rw[Tryz.func59];conv=>lhs;cbv)
theorem c59_ok:Jg Ga 59=some c59:=vK
def c60:IFunc:=mkIA (P:=Ga) (f:=60) _ (by unfold Jg;rw[Tryz.func60];conv=>lhs;cbv)
theorem c60_ok:Jg Ga 60=some c60:=vK
def c61:IFunc:=mkIA (P:=Ga) (f:=61) _ (by unfold Jg;rw[Tryz.func61];conv=>lhs;cbv)
theorem c61_ok:Jg Ga 61=some c61:=vK
def c62:IFunc:=mkIA (P:=Ga) (f:=62) _ (by unfold Jg;rw[Tryz.func62];conv=>lhs;cbv)
theorem c62_ok:Jg Ga 62=some c62:=vK
def c66:IFunc:=mkIA (P:=Ga) (f:=66) _ (by unfold Jg;rw[Tryz.func66];conv=>lhs;cbv)
theorem c66_ok:Jg Ga 66=some c66:=vK
def c69:IFunc:=mkIA (P:=Ga) (f:=69) _ (by unfold Jg;rw[Tryz.func69];conv=>lhs;cbv)
theorem c69_ok:Jg Ga 69=some c69:=vK
def c72:IFunc:=mkIA (P:=Ga) (f:=72) _ (by unfold Jg;rw[Tryz.func72];conv=>lhs;cbv)
theorem c72_ok:Jg Ga 72=some c72:=vK
def c73:IFunc:=mkIA (P:=Ga) (f:=73) _ (by unfold Jg;rw[Tryz.func73];conv=>lhs;cbv)
theorem c73_ok:Jg Ga 73=some c73:=vK
def c75:IFunc:=mkIA (P:=Ga) (f:=75) _ (by unfold Jg;rw[Tryz.func75];conv=>lhs;cbv)
theorem c75_ok:Jg Ga 75=some c75:=vK
def c76:IFunc:=mkIA (P:=Ga) (f:=76) _ (by unfold Jg;rw[Tryz.func76];conv=>lhs;cbv)
theorem c76_ok:Jg Ga 76=some c76:=vK
end Go.Cm
end
end
