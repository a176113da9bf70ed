/-
  A part of the proof. Conditions: none.
-/
import Derived.Test.YtdnnimemociklaaGreatDoorYA1
import Derived.Test.YtdnnimemociklaaGreatDoorProg
set_option linter.unusedSimpArgs false
set_option linter.unusedVariables false
open Go.Proofs.Tryz renaming prog->Ga
noncomputable section
section
set_option maxRecDepth 100000
open Go.Proofs
namespace Go.Cm
@[reducible] def mkIA{P:Go.Program}{f:Nat}(F:IFunc)(_:Jd P f=some F):IFunc:=F
def c5:IFunc:=mkIA (P:=Ga) (f:=5) _ (by unfold Jd;rw[Tryz.func5];conv=>lhs;cbv)
theorem c5_ok:Jd Ga 5=some c5:=kR
def c6:IFunc:=mkIA (P:=Ga) (f:=6) _ (by unfold Jd;rw[Tryz.func6];conv=>lhs;cbv)
theorem c6_ok:Jd Ga 6=some c6:=kR
def c7:IFunc:=mkIA (P:=Ga) (f:=7) _ (by unfold Jd;rw[Tryz.func7];conv=>lhs;cbv)
theorem c7_ok:Jd Ga 7=some c7:=kR
def c8:IFunc:=mkIA (P:=Ga) (f:=8) _ (by unfold Jd;rw[Tryz.func8];conv=>lhs;cbv)
theorem c8_ok:Jd Ga 8=some c8:=kR
def c9:IFunc:=mkIA (P:=Ga) (f:=9) _ (by unfold Jd;rw[Tryz.func9];conv=>lhs;cbv)
theorem c9_ok:Jd Ga 9=some c9:=kR
def c10:IFunc:=mkIA (P:=Ga) (f:=10) _ (by unfold Jd;rw[Tryz.func10];conv=>lhs;cbv)
theorem c10_ok:Jd Ga 10=some c10:=kR
def c11:IFunc:=mkIA (P:=Ga) (f:=11) _ (by unfold Jd;rw[Tryz.func11];conv=>lhs;cbv)
theorem c11_ok:Jd Ga 11=some c11:=kR
def c18:IFunc:=mkIA (P:=Ga) (f:=18) _ (by unfold Jd;rw[Tryz.func18];conv=>lhs;cbv)
theorem c18_ok:Jd Ga 18=some c18:=kR
def c19:IFunc:=mkIA (P:=Ga) (f:=19) _ (by unfold Jd;rw[Tryz.func19];conv=>lhs;cbv)
theorem c19_ok:Jd Ga 19=some c19:=kR
def c20:IFunc:=mkIA (P:=Ga) (f:=20) _ (by unfold Jd;rw[Tryz.func20];conv=>lhs;cbv)
theorem c20_ok:Jd Ga 20=some c20:=kR
def c21:IFunc:=mkIA (P:=Ga) (f:=21) _ (by unfold Jd;rw[Tryz.func21];conv=>lhs;cbv)
theorem c21_ok:Jd Ga 21=some c21:=kR
def c22:IFunc:=mkIA (P:=Ga) (f:=22) _ (by unfold Jd;rw[Tryz.func22];conv=>lhs;cbv)
theorem c22_ok:Jd Ga 22=some c22:=kR
def c23:IFunc:=mkIA (P:=Ga) (f:=23) _ (by unfold Jd;rw[Tryz.func23];conv=>lhs;cbv)
theorem c23_ok:Jd Ga 23=some c23:=kR
def c24:IFunc:=mkIA (P:=Ga) (f:=24) _ (by unfold Jd;rw[Tryz.func24];conv=>lhs;cbv)
theorem c24_ok:Jd Ga 24=some c24:=kR
def c25:IFunc:=mkIA (P:=Ga) (f:=25) _ (by unfold Jd;rw[Tryz.func25];conv=>lhs;cbv)
theorem c25_ok:Jd Ga 25=some c25:=kR
def c26:IFunc:=mkIA (P:=Ga) (f:=26) _ (by unfold Jd;rw[Tryz.func26];conv=>lhs;cbv)
theorem c26_ok:Jd Ga 26=some c26:=kR
def c27:IFunc:=mkIA (P:=Ga) (f:=27) _ (by unfold Jd;rw[Tryz.func27];conv=>lhs;cbv)
theorem c27_ok:Jd Ga 27=some c27:=kR
def c28:IFunc:=mkIA (P:=Ga) (f:=28) _ (by unfold Jd;rw[Tryz.func28];conv=>lhs;cbv)
theorem c28_ok:Jd Ga 28=some c28:=kR
def c29:IFunc:=mkIA (P:=Ga) (f:=29) _ (by unfold Jd;rw[Tryz.func29];conv=>lhs;cbv)
theorem c29_ok:Jd Ga 29=some c29:=kR
def c30:IFunc:=mkIA (P:=Ga) (f:=30) _ (by unfold Jd;rw[Tryz.func30];conv=>lhs;cbv)
theorem c30_ok:Jd Ga 30=some c30:=kR
def c31:IFunc:=mkIA (P:=Ga) (f:=31) _ (by unfold Jd;rw[Tryz.func31];conv=>lhs;cbv)
theorem c31_ok:Jd Ga 31=some c31:=kR
def c32:IFunc:=mkIA (P:=Ga) (f:=32) _ (by unfold Jd;rw[Tryz.func32];conv=>lhs;cbv)
theorem c32_ok:Jd Ga 32=some c32:=kR
def c33:IFunc:=mkIA (P:=Ga) (f:=33) _ (by unfold Jd;rw[Tryz.func33];conv=>lhs;cbv)
theorem c33_ok:Jd Ga 33=some c33:=kR
def c34:IFunc:=mkIA (P:=Ga) (f:=34) _ (by unfold Jd;rw[Tryz.func34];conv=>lhs;cbv)
theorem c34_ok:Jd Ga 34=some c34:=kR
def c35:IFunc:=mkIA (P:=Ga) (f:=35) _ (by unfold Jd;rw[Tryz.func35];conv=>lhs;cbv)
theorem c35_ok:Jd Ga 35=some c35:=kR
def c37:IFunc:=mkIA (P:=Ga) (f:=37) _ (by unfold Jd;rw[Tryz.func37];conv=>lhs;cbv)
def c38:IFunc:=mkIA (P:=Ga) (f:=38) _ (by unfold Jd;rw[Tryz.func38];conv=>lhs;cbv)
theorem c38_ok:Jd Ga 38=some c38:=kR
def c39:IFunc:=mkIA (P:=Ga) (f:=39) _ (by unfold Jd;rw[Tryz.func39];conv=>lhs;cbv)
theorem c39_ok:Jd Ga 39=some c39:=kR
def c40:IFunc:=mkIA (P:=Ga) (f:=40) _ (by unfold Jd;rw[Tryz.func40];conv=>lhs;cbv)
theorem c40_ok:Jd Ga 40=some c40:=kR
def c41:IFunc:=mkIA (P:=Ga) (f:=41) _ (by unfold Jd;rw[Tryz.func41];conv=>lhs;cbv)
theorem c41_ok:Jd Ga 41=some c41:=kR
def c42:IFunc:=mkIA (P:=Ga) (f:=42) _ (by unfold Jd;rw[Tryz.func42];conv=>lhs;cbv)
theorem c42_ok:Jd Ga 42=some c42:=kR
def c43:IFunc:=mkIA (P:=Ga) (f:=43) _ (by unfold Jd;rw[Tryz.func43];conv=>lhs;cbv)
theorem c43_ok:Jd Ga 43=some c43:=kR
def c44:IFunc:=mkIA (P:=Ga) (f:=44) _ (by unfold Jd;rw[Tryz.func44];conv=>lhs;cbv)
theorem c44_ok:Jd Ga 44=some c44:=kR
def c45:IFunc:=mkIA (P:=Ga) (f:=45) _ (by unfold Jd;rw[Tryz.func45];conv=>lhs;cbv)
theorem c45_ok:Jd Ga 45=some c45:=kR
def c46:IFunc:=mkIA (P:=Ga) (f:=46) _ (by unfold Jd;rw[Tryz.func46];conv=>lhs;cbv)
theorem c46_ok:Jd Ga 46=some c46:=kR
def c47:IFunc:=mkIA (P:=Ga) (f:=47) _ (by unfold Jd;rw[Tryz.func47];conv=>lhs;cbv)
theorem c47_ok:Jd Ga 47=some c47:=kR
def c48:IFunc:=mkIA (P:=Ga) (f:=48) _ (by unfold Jd;rw[Tryz.func48];conv=>lhs;cbv)
theorem c48_ok:Jd Ga 48=some c48:=kR
def c49:IFunc:=mkIA (P:=Ga) (f:=49) _ (by unfold Jd;rw[Tryz.func49];conv=>lhs;cbv)
theorem c49_ok:Jd Ga 49=some c49:=kR
def c50:IFunc:=mkIA (P:=Ga) (f:=50) _ (by unfold Jd;rw[Tryz.func50];conv=>lhs;cbv)
theorem c50_ok:Jd Ga 50=some c50:=kR
def c51:IFunc:=mkIA (P:=Ga) (f:=51) _ (by unfold Jd;rw[Tryz.func51];conv=>lhs;cbv)
theorem c51_ok:Jd Ga 51=some c51:=kR
def c52:IFunc:=mkIA (P:=Ga) (f:=52) _ (by unfold Jd;rw[Tryz.func52];conv=>lhs;cbv)
theorem c52_ok:Jd Ga 52=some c52:=kR
def c53:IFunc:=mkIA (P:=Ga) (f:=53) _ (by unfold Jd;rw[Tryz.func53];conv=>lhs;cbv)
theorem c53_ok:Jd Ga 53=some c53:=kR
def c54:IFunc:=mkIA (P:=Ga) (f:=54) _ (by unfold Jd;rw[Tryz.func54];conv=>lhs;cbv)
theorem c54_ok:Jd Ga 54=some c54:=kR
def c55:IFunc:=mkIA (P:=Ga) (f:=55) _ (by unfold Jd;rw[Tryz.func55];conv=>lhs;cbv)
theorem c55_ok:Jd Ga 55=some c55:=kR
def c56:IFunc:=mkIA (P:=Ga) (f:=56) _ (by unfold Jd;rw[Tryz.func56];conv=>lhs;cbv)
theorem c56_ok:Jd Ga 56=some c56:=kR
def c57:IFunc:=mkIA (P:=Ga) (f:=57) _ (by unfold Jd;rw[Tryz.func57];conv=>lhs;cbv)
theorem c57_ok:Jd Ga 57=some c57:=kR
def c58:IFunc:=mkIA (P:=Ga) (f:=58) _ (by unfold Jd;rw[Tryz.func58];conv=>lhs;cbv)
theorem c58_ok:Jd Ga 58=some c58:=kR
def c59:IFunc:=mkIA (P:=Ga) (f:=59) _ (by unfold Jd;rw[Tryz.func59];conv=>lhs;cbv)
theorem c59_ok:Jd Ga 59=some c59:=kR
def c60:IFunc:=mkIA (P:=Ga) (f:=60) _ (by unfold Jd;rw[Tryz.func60];conv=>lhs;cbv)
theorem c60_ok:Jd Ga 60=some c60:=kR
def c61:IFunc:=mkIA (P:=Ga) (f:=61) _ (by unfold Jd;rw[Tryz.func61];conv=>lhs;cbv)
theorem c61_ok:Jd Ga 61=some c61:=kR
def c62:IFunc:=mkIA (P:=Ga) (f:=62) _ (by unfold Jd;rw[Tryz.func62];conv=>lhs;cbv)
theorem c62_ok:Jd Ga 62=some c62:=kR
def c63:IFunc:=mkIA (P:=Ga) (f:=63) _ (by unfold Jd;rw[Tryz.func63];conv=>lhs;cbv)
theorem c63_ok:Jd Ga 63=some c63:=kR
def c64:IFunc:=mkIA (P:=Ga) (f:=64) _ (by unfold Jd;rw[Tryz.func64];conv=>lhs;cbv)
theorem c64_ok:Jd Ga 64=some c64:=kR
def c65:IFunc:=mkIA (P:=Ga) (f:=65) _ (by unfold Jd;rw[Tryz.func65];conv=>lhs;cbv)
theorem c65_ok:Jd Ga 65=some c65:=kR
def c66:IFunc:=mkIA (P:=Ga) (f:=66) _ (by unfold Jd;rw[Tryz.func66];conv=>lhs;cbv)
theorem c66_ok:Jd Ga 66=some c66:=kR
def c69:IFunc:=mkIA (P:=Ga) (f:=69) _ (by unfold Jd;rw[Tryz.func69];conv=>lhs;cbv)
theorem c69_ok:Jd Ga 69=some c69:=kR
def c72:IFunc:=mkIA (P:=Ga) (f:=72) _ (by unfold Jd;rw[Tryz.func72];conv=>lhs;cbv)
theorem c72_ok:Jd Ga 72=some c72:=kR
def c73:IFunc:=mkIA (P:=Ga) (f:=73) _ (by unfold Jd;rw[Tryz.func73];conv=>lhs;cbv)
theorem c73_ok:Jd Ga 73=some c73:=kR
def c74:IFunc:=mkIA (P:=Ga) (f:=74) _ (by unfold Jd;rw[Tryz.func74];conv=>lhs;cbv)
theorem c74_ok:Jd Ga 74=some c74:=kR
def c75:IFunc:=mkIA (P:=Ga) (f:=75) _ (by unfold Jd;rw[Tryz.func75];conv=>lhs;cbv)
theorem c75_ok:Jd Ga 75=some c75:=kR
def c76:IFunc:=mkIA (P:=Ga) (f:=76) _ (by unfold Jd;rw[Tryz.func76];conv=>lhs;cbv)
theorem c76_ok:Jd Ga 76=some c76:=kR
end Go.Cm
end
end
