/-
  A part of the proof. Conditions: none.
-/
import Derived.Test.YtejfnfphmkjffaaGreatDoorUI1
import Derived.Test.YtejfnfphmkjffaaGreatDoorUI2
set_option linter.unusedSimpArgs false
set_option linter.unusedVariables false
open Go.Proofs.Tryz renaming prog->Ga
noncomputable section
section
set_option maxRecDepth 100000
open Go.Proofs
namespace Go.Cm
@[reducible] def mkIC{P:Go.Program}{f:Nat}(F:IFunc)(_:Jf P f=some F):IFunc:=F
def c158:IFunc:=mkIC (P:=Ga) (f:=158) _ (by unfold Jf;rw[Tryz.func158];conv=>lhs;cbv)
theorem c158_ok:Jf Ga 158=some c158:=by kernel_rfl
def c159:IFunc:=mkIC (P:=Ga) (f:=159) _ (by unfold Jf;rw[Tryz.func159];conv=>lhs;cbv)
theorem c159_ok:Jf Ga 159=some c159:=by kernel_rfl
def c161:IFunc:=mkIC (P:=Ga) (f:=161) _ (by unfold Jf;rw[Tryz.func161];conv=>lhs;cbv)
theorem c161_ok:Jf Ga 161=some c161:=by kernel_rfl
def c162:IFunc:=mkIC (P:=Ga) (f:=162) _ (by unfold Jf;rw[Tryz.func162];conv=>lhs;cbv)
theorem c162_ok:Jf Ga 162=some c162:=by kernel_rfl
def c163:IFunc:=mkIC (P:=Ga) (f:=163) _ (by unfold Jf;rw[Tryz.func163];conv=>lhs;cbv)
theorem c163_ok:Jf Ga 163=some c163:=by kernel_rfl
def c164:IFunc:=mkIC (P:=Ga) (f:=164) _ (by unfold Jf;rw[Tryz.func164];conv=>lhs;cbv)
theorem c164_ok:Jf Ga 164=some c164:=by kernel_rfl
def c165:IFunc:=mkIC (P:=Ga) (f:=165) _ (by unfold Jf;rw[Tryz.func165];conv=>lhs;cbv)
theorem c165_ok:Jf Ga 165=some c165:=by kernel_rfl
def c166:IFunc:=mkIC (P:=Ga) (f:=166) _ (by unfold Jf;rw[Tryz.func166];conv=>lhs;cbv)
theorem c166_ok:Jf Ga 166=some c166:=by kernel_rfl
def c167:IFunc:=mkIC (P:=Ga) (f:=167) _ (by unfold Jf;rw[Tryz.func167];conv=>lhs;cbv)
theorem c167_ok:Jf Ga 167=some c167:=by kernel_rfl
def c170:IFunc:=mkIC (P:=Ga) (f:=170) _ (by unfold Jf;rw[Tryz.func170];conv=>lhs;cbv)
theorem c170_ok:Jf Ga 170=some c170:=by kernel_rfl
def c173:IFunc:=mkIC (P:=Ga) (f:=173) _ (by unfold Jf;rw[Tryz.func173];conv=>lhs;cbv)
theorem c173_ok:Jf Ga 173=some c173:=by kernel_rfl
def c174:IFunc:=mkIC (P:=Ga) (f:=174) _ (by unfold Jf;rw[Tryz.func174];conv=>lhs;cbv)
theorem c174_ok:Jf Ga 174=some c174:=by kernel_rfl
def c175:IFunc:=mkIC (P:=Ga) (f:=175) _ (by unfold Jf;rw[Tryz.func175];conv=>lhs;cbv)
theorem c175_ok:Jf Ga 175=some c175:=by kernel_rfl
def c176:IFunc:=mkIC (P:=Ga) (f:=176) _ (by unfold Jf;rw[Tryz.func176];conv=>lhs;cbv)
theorem c176_ok:Jf Ga 176=some c176:=by kernel_rfl
def c179:IFunc:=mkIC (P:=Ga) (f:=179) _ (by unfold Jf;rw[Tryz.func179];conv=>lhs;cbv)
theorem c179_ok:Jf Ga 179=some c179:=by kernel_rfl
def c182:IFunc:=mkIC (P:=Ga) (f:=182) _ (by unfold Jf;rw[Tryz.func182];conv=>lhs;cbv)
theorem c182_ok:Jf Ga 182=some c182:=by kernel_rfl
def c183:IFunc:=mkIC (P:=Ga) (f:=183) _ (by unfold Jf;rw[Tryz.func183];conv=>lhs;cbv)
theorem c183_ok:Jf Ga 183=some c183:=by kernel_rfl
def c184:IFunc:=mkIC (P:=Ga) (f:=184) _ (by unfold Jf;rw[Tryz.func184];conv=>lhs;cbv)
theorem c184_ok:Jf Ga 184=some c184:=by kernel_rfl
def c185:IFunc:=mkIC (P:=Ga) (f:=185) _ (by unfold Jf;rw[Tryz.func185];conv=>lhs;cbv)
theorem c185_ok:Jf Ga 185=some c185:=by kernel_rfl
def c197:IFunc:=mkIC (P:=Ga) (f:=197) _ (by unfold Jf;rw[Tryz.func197];conv=>lhs;cbv)
theorem c197_ok:Jf Ga 197=some c197:=by kernel_rfl
def c198:IFunc:=mkIC (P:=Ga) (f:=198) _ (by unfold Jf;rw[Tryz.func198];conv=>lhs;cbv)
theorem c198_ok:Jf Ga 198=some c198:=by kernel_rfl
def c199:IFunc:=mkIC (P:=Ga) (f:=199) _ (by unfold Jf;rw[Tryz.func199];conv=>lhs;cbv)
theorem c199_ok:Jf Ga 199=some c199:=by kernel_rfl
def c201:IFunc:=mkIC (P:=Ga) (f:=201) _ (by unfold Jf;rw[Tryz.func201];conv=>lhs;cbv)
theorem c201_ok:Jf Ga 201=some c201:=by kernel_rfl
def c208:IFunc:=mkIC (P:=Ga) (f:=208) _ (by unfold Jf;rw[Tryz.func208];conv=>lhs;cbv)
theorem c208_ok:Jf Ga 208=some c208:=by kernel_rfl
def c215:IFunc:=mkIC (P:=Ga) (f:=215) _ (by unfold Jf;rw[Tryz.func215];conv=>lhs;cbv)
theorem c215_ok:Jf Ga 215=some c215:=by kernel_rfl
def c216:IFunc:=mkIC (P:=Ga) (f:=216) _ (by unfold Jf;rw[Tryz.func216];conv=>lhs;cbv)
theorem c216_ok:Jf Ga 216=some c216:=by kernel_rfl
def c217:IFunc:=mkIC (P:=Ga) (f:=217) _ (by unfold Jf;rw[Tryz.func217];conv=>lhs;cbv)
theorem c217_ok:Jf Ga 217=some c217:=by kernel_rfl
def c218:IFunc:=mkIC (P:=Ga) (f:=218) _ (by unfold Jf;rw[Tryz.func218];conv=>lhs;cbv)
theorem c218_ok:Jf Ga 218=some c218:=by kernel_rfl
def c222:IFunc:=mkIC (P:=Ga) (f:=222) _ (by unfold Jf;rw[Tryz.func222];conv=>lhs;cbv)
theorem c222_ok:Jf Ga 222=some c222:=by kernel_rfl
def c223:IFunc:=mkIC (P:=Ga) (f:=223) _ (by unfold Jf;rw[Tryz.func223];conv=>lhs;cbv)
theorem c223_ok:Jf Ga 223=some c223:=by kernel_rfl
def c225:IFunc:=mkIC (P:=Ga) (f:=225) _ (by unfold Jf;rw[Tryz.func225];conv=>lhs;cbv)
theorem c225_ok:Jf Ga 225=some c225:=by kernel_rfl
def c226:IFunc:=mkIC (P:=Ga) (f:=226) _ (by unfold Jf;rw[Tryz.func226];conv=>lhs;cbv)
theorem c226_ok:Jf Ga 226=some c226:=by kernel_rfl
def c232:IFunc:=mkIC (P:=Ga) (f:=232) _ (by unfold Jf;rw[Tryz.func232];conv=>lhs;cbv)
theorem c232_ok:Jf Ga 232=some c232:=by kernel_rfl
def c233:IFunc:=mkIC (P:=Ga) (f:=233) _ (by unfold Jf;rw[Tryz.func233];conv=>lhs;cbv)
theorem c233_ok:Jf Ga 233=some c233:=by kernel_rfl
def c234:IFunc:=mkIC (P:=Ga) (f:=234) _ (by unfold Jf;rw[Tryz.func234];conv=>lhs;cbv)
theorem c234_ok:Jf Ga 234=some c234:=by kernel_rfl
def c235:IFunc:=mkIC (P:=Ga) (f:=235) _ (by unfold Jf;rw[Tryz.func235];conv=>lhs;cbv)
theorem c235_ok:Jf Ga 235=some c235:=by kernel_rfl
def c236:IFunc:=mkIC (P:=Ga) (f:=236) _ (by unfold Jf;rw[Tryz.func236];conv=>lhs;cbv)
theorem c236_ok:Jf Ga 236=some c236:=by kernel_rfl
def c238:IFunc:=mkIC (P:=Ga) (f:=238) _ (by unfold Jf;rw[Tryz.func238];conv=>lhs;cbv)
theorem c238_ok:Jf Ga 238=some c238:=by kernel_rfl
def c241:IFunc:=mkIC (P:=Ga) (f:=241) _ (by unfold Jf;rw[Tryz.func241];conv=>lhs;cbv)
theorem c241_ok:Jf Ga 241=some c241:=by kernel_rfl
def c242:IFunc:=mkIC (P:=Ga) (f:=242) _ (by unfold Jf;rw[Tryz.func242];conv=>lhs;cbv)
theorem c242_ok:Jf Ga 242=some c242:=by kernel_rfl
def c245:IFunc:=mkIC (P:=Ga) (f:=245) _ (by unfold Jf;rw[Tryz.func245];conv=>lhs;cbv)
theorem c245_ok:Jf Ga 245=some c245:=by kernel_rfl
def c249:IFunc:=mkIC (P:=Ga) (f:=249) _ (by unfold Jf;rw[Tryz.func249];conv=>lhs;cbv)
theorem c249_ok:Jf Ga 249=some c249:=by kernel_rfl
end Go.Cm
end
section
end
end
