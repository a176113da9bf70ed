/-
  A part of the proof. Conditions: none.
-/
import Derived.Test.YtejfnfphmkjffaaGreatDoorVA1
import Derived.Test.YtejfnfphmkjffaaGreatDoorProg
set_option linter.unusedSimpArgs false
set_option linter.unusedVariables false
open Go.Proofs.Tryz renaming prog->Ga
noncomputable section
section
set_option maxRecDepth 100000
open Go.Proofs
namespace Go.Cm
@[reducible] def mkIA{P:Go.Program}{f:Nat}(F:IFunc)(_:Je P f=some F):IFunc:=F
def c3:IFunc:=mkIA (P:=Ga) (f:=3) _ (by unfold Je;rw[Tryz.func3];conv=>lhs;cbv)
theorem c3_ok:Je Ga 3=some c3:=by kernel_rfl
def c6:IFunc:=mkIA (P:=Ga) (f:=6) _ (by unfold Je;rw[Tryz.func6];conv=>lhs;cbv)
theorem c6_ok:Je Ga 6=some c6:=by kernel_rfl
def c7:IFunc:=mkIA (P:=Ga) (f:=7) _ (by unfold Je;rw[Tryz.func7];conv=>lhs;cbv)
theorem c7_ok:Je Ga 7=some c7:=by kernel_rfl
def c8:IFunc:=mkIA (P:=Ga) (f:=8) _ (by unfold Je;rw[Tryz.func8];conv=>lhs;cbv)
theorem c8_ok:Je Ga 8=some c8:=by kernel_rfl
def c9:IFunc:=mkIA (P:=Ga) (f:=9) _ (by unfold Je;rw[Tryz.func9];conv=>lhs;cbv)
theorem c9_ok:Je Ga 9=some c9:=by kernel_rfl
def c10:IFunc:=mkIA (P:=Ga) (f:=10) _ (by unfold Je;rw[Tryz.func10];conv=>lhs;cbv)
theorem c10_ok:Je Ga 10=some c10:=by kernel_rfl
def c11:IFunc:=mkIA (P:=Ga) (f:=11) _ (by unfold Je;rw[Tryz.func11];conv=>lhs;cbv)
theorem c11_ok:Je Ga 11=some c11:=by kernel_rfl
def c12:IFunc:=mkIA (P:=Ga) (f:=12) _ (by unfold Je;rw[Tryz.func12];conv=>lhs;cbv)
theorem c12_ok:Je Ga 12=some c12:=by kernel_rfl
def c13:IFunc:=mkIA (P:=Ga) (f:=13) _ (by unfold Je;rw[Tryz.func13];conv=>lhs;cbv)
theorem c13_ok:Je Ga 13=some c13:=by kernel_rfl
def c14:IFunc:=mkIA (P:=Ga) (f:=14) _ (by unfold Je;rw[Tryz.func14];conv=>lhs;cbv)
theorem c14_ok:Je Ga 14=some c14:=by kernel_rfl
def c15:IFunc:=mkIA (P:=Ga) (f:=15) _ (by unfold Je;rw[Tryz.func15];conv=>lhs;cbv)
theorem c15_ok:Je Ga 15=some c15:=by kernel_rfl
def c16:IFunc:=mkIA (P:=Ga) (f:=16) _ (by unfold Je;rw[Tryz.func16];conv=>lhs;cbv)
theorem c16_ok:Je Ga 16=some c16:=by kernel_rfl
def c20:IFunc:=mkIA (P:=Ga) (f:=20) _ (by unfold Je;rw[Tryz.func20];conv=>lhs;cbv)
theorem c20_ok:Je Ga 20=some c20:=by kernel_rfl
def c21:IFunc:=mkIA (P:=Ga) (f:=21) _ (by unfold Je;rw[Tryz.func21];conv=>lhs;cbv)
theorem c21_ok:Je Ga 21=some c21:=by kernel_rfl
def c22:IFunc:=mkIA (P:=Ga) (f:=22) _ (by unfold Je;rw[Tryz.func22];conv=>lhs;cbv)
theorem c22_ok:Je Ga 22=some c22:=by kernel_rfl
def c23:IFunc:=mkIA (P:=Ga) (f:=23) _ (by unfold Je;rw[Tryz.func23];conv=>lhs;cbv)
theorem c23_ok:Je Ga 23=some c23:=by kernel_rfl
def c24:IFunc:=mkIA (P:=Ga) (f:=24) _ (by unfold Je;rw[Tryz.func24];conv=>lhs;cbv)
theorem c24_ok:Je Ga 24=some c24:=by kernel_rfl
def c25:IFunc:=mkIA (P:=Ga) (f:=25) _ (by unfold Je;rw[Tryz.func25];conv=>lhs;cbv)
theorem c25_ok:Je Ga 25=some c25:=by kernel_rfl
def c26:IFunc:=mkIA (P:=Ga) (f:=26) _ (by unfold Je;rw[Tryz.func26];conv=>lhs;cbv)
theorem c26_ok:Je Ga 26=some c26:=by kernel_rfl
def c27:IFunc:=mkIA (P:=Ga) (f:=27) _ (by unfold Je;rw[Tryz.func27];conv=>lhs;cbv)
theorem c27_ok:Je Ga 27=some c27:=by kernel_rfl
def c28:IFunc:=mkIA (P:=Ga) (f:=28) _ (by unfold Je;rw[Tryz.func28];conv=>lhs;cbv)
theorem c28_ok:Je Ga 28=some c28:=by kernel_rfl
def c29:IFunc:=mkIA (P:=Ga) (f:=29) _ (by unfold Je;rw[Tryz.func29];conv=>lhs;cbv)
theorem c29_ok:Je Ga 29=some c29:=by kernel_rfl
def c30:IFunc:=mkIA (P:=Ga) (f:=30) _ (by unfold Je;rw[Tryz.func30];conv=>lhs;cbv)
theorem c30_ok:Je Ga 30=some c30:=by kernel_rfl
def c31:IFunc:=mkIA (P:=Ga) (f:=31) _ (by unfold Je;rw[Tryz.func31];conv=>lhs;cbv)
theorem c31_ok:Je Ga 31=some c31:=by kernel_rfl
def c32:IFunc:=mkIA (P:=Ga) (f:=32) _ (by unfold Je;rw[Tryz.func32];conv=>lhs;cbv)
theorem c32_ok:Je Ga 32=some c32:=by kernel_rfl
def c33:IFunc:=mkIA (P:=Ga) (f:=33) _ (by unfold Je;rw[Tryz.func33];conv=>lhs;cbv)
theorem c33_ok:Je Ga 33=some c33:=by kernel_rfl
def c34:IFunc:=mkIA (P:=Ga) (f:=34) _ (by unfold Je;rw[Tryz.func34];conv=>lhs;cbv)
theorem c34_ok:Je Ga 34=some c34:=by kernel_rfl
def c35:IFunc:=mkIA (P:=Ga) (f:=35) _ (by unfold Je;rw[Tryz.func35];conv=>lhs;cbv)
theorem c35_ok:Je Ga 35=some c35:=by kernel_rfl
def c37:IFunc:=mkIA (P:=Ga) (f:=37) _ (by unfold Je;rw[Tryz.func37];conv=>lhs;cbv)
theorem c37_ok:Je Ga 37=some c37:=by kernel_rfl
def c38:IFunc:=mkIA (P:=Ga) (f:=38) _ (by unfold Je;rw[Tryz.func38];conv=>lhs;cbv)
theorem c38_ok:Je Ga 38=some c38:=by kernel_rfl
def c39:IFunc:=mkIA (P:=Ga) (f:=39) _ (by unfold Je;rw[Tryz.func39];conv=>lhs;cbv)
theorem c39_ok:Je Ga 39=some c39:=by kernel_rfl
def c40:IFunc:=mkIA (P:=Ga) (f:=40) _ (by unfold Je;rw[Tryz.func40];conv=>lhs;cbv)
theorem c40_ok:Je Ga 40=some c40:=by kernel_rfl
def c41:IFunc:=mkIA (P:=Ga) (f:=41) _ (by unfold Je;rw[Tryz.func41];conv=>lhs;cbv)
theorem c41_ok:Je Ga 41=some c41:=by kernel_rfl
def c42:IFunc:=mkIA (P:=Ga) (f:=42) _ (by unfold Je;rw[Tryz.func42];conv=>lhs;cbv)
theorem c42_ok:Je Ga 42=some c42:=by kernel_rfl
def c43:IFunc:=mkIA (P:=Ga) (f:=43) _ (by unfold Je;rw[Tryz.func43];conv=>lhs;cbv)
theorem c43_ok:Je Ga 43=some c43:=by kernel_rfl
def c44:IFunc:=mkIA (P:=Ga) (f:=44) _ (by unfold Je;rw[Tryz.func44];conv=>lhs;cbv)
theorem c44_ok:Je Ga 44=some c44:=by kernel_rfl
def c45:IFunc:=mkIA (P:=Ga) (f:=45) _ (by unfold Je;rw[Tryz.func45];conv=>lhs;cbv)
theorem c45_ok:Je Ga 45=some c45:=by kernel_rfl
def c46:IFunc:=mkIA (P:=Ga) (f:=46) _ (by unfold Je;rw[Tryz.func46];conv=>lhs;cbv)
theorem c46_ok:Je Ga 46=some c46:=by kernel_rfl
def c47:IFunc:=mkIA (P:=Ga) (f:=47) _ (by unfold Je;rw[Tryz.func47];conv=>lhs;cbv)
theorem c47_ok:Je Ga 47=some c47:=by kernel_rfl
def c48:IFunc:=mkIA (P:=Ga) (f:=48) _ (by unfold Je;rw[Tryz.func48];conv=>lhs;cbv)
theorem c48_ok:Je Ga 48=some c48:=by kernel_rfl
def c49:IFunc:=mkIA (P:=Ga) (f:=49) _ (by unfold Je;rw[Tryz.func49];conv=>lhs;cbv)
theorem c49_ok:Je Ga 49=some c49:=by kernel_rfl
def c50:IFunc:=mkIA (P:=Ga) (f:=50) _ (by unfold Je;rw[Tryz.func50];conv=>lhs;cbv)
theorem c50_ok:Je Ga 50=some c50:=by kernel_rfl
def c51:IFunc:=mkIA (P:=Ga) (f:=51) _ (by unfold Je;rw[Tryz.func51];conv=>lhs;cbv)
theorem c51_ok:Je Ga 51=some c51:=by kernel_rfl
def c52:IFunc:=mkIA (P:=Ga) (f:=52) _ (by unfold Je;rw[Tryz.func52];conv=>lhs;cbv)
theorem c52_ok:Je Ga 52=some c52:=by kernel_rfl
def c53:IFunc:=mkIA (P:=Ga) (f:=53) _ (by unfold Je;rw[Tryz.func53];conv=>lhs;cbv)
theorem c53_ok:Je Ga 53=some c53:=by kernel_rfl
def c54:IFunc:=mkIA (P:=Ga) (f:=54) _ (by unfold Je;rw[Tryz.func54];conv=>lhs;cbv)
theorem c54_ok:Je Ga 54=some c54:=by kernel_rfl
def c55:IFunc:=mkIA (P:=Ga) (f:=55) _ (by unfold Je;rw[Tryz.func55];conv=>lhs;cbv)
theorem c55_ok:Je Ga 55=some c55:=by kernel_rfl
def c56:IFunc:=mkIA (P:=Ga) (f:=56) _ (by unfold Je;rw[Tryz.func56];conv=>lhs;cbv)
theorem c56_ok:Je Ga 56=some c56:=by kernel_rfl
def c57:IFunc:=mkIA (P:=Ga) (f:=57) _ (by unfold Je;rw[Tryz.func57];conv=>lhs;cbv)
theorem c57_ok:Je Ga 57=some c57:=by kernel_rfl
def c58:IFunc:=mkIA (P:=Ga) (f:=58) _ (by unfold Je;rw[Tryz.func58];conv=>lhs;cbv)
theorem c58_ok:Je Ga 58=some c58:=by kernel_rfl
end Go.Cm
end
end
