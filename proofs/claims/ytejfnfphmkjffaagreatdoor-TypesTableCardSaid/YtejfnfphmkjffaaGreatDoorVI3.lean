/-
  A part of the proof. Conditions: none.
-/
import Derived.Test.YtejfnfphmkjffaaGreatDoorVI1
import Derived.Test.YtejfnfphmkjffaaGreatDoorVI2
set_option linter.unusedSimpArgs false
set_option linter.unusedVariables false
open Go.Proofs.Tryz renaming prog->Ga
noncomputable section
section
set_option maxRecDepth 100000
open Go.Proofs
namespace Go.Cm
@[reducible] def mkIC{P:Go.Program}{f:Nat}(F:IFunc)(_:Je P f=some F):IFunc:=F
def c158:IFunc:=mkIC (P:=Ga) (f:=158) _ (by unfold Je;rw[Tryz.func158];conv=>lhs;cbv)
theorem c158_ok:Je Ga 158=some c158:=by kernel_rfl
def c159:IFunc:=mkIC (P:=Ga) (f:=159) _ (by unfold Je;rw[Tryz.func159];conv=>lhs;cbv)
theorem c159_ok:Je Ga 159=some c159:=by kernel_rfl
def c161:IFunc:=mkIC (P:=Ga) (f:=161) _ (by unfold Je;rw[Tryz.func161];conv=>lhs;cbv)
theorem c161_ok:Je Ga 161=some c161:=by kernel_rfl
def c162:IFunc:=mkIC (P:=Ga) (f:=162) _ (by unfold Je;rw[Tryz.func162];conv=>lhs;cbv)
theorem c162_ok:Je Ga 162=some c162:=by kernel_rfl
def c163:IFunc:=mkIC (P:=Ga) (f:=163) _ (by unfold Je;rw[Tryz.func163];conv=>lhs;cbv)
theorem c163_ok:Je Ga 163=some c163:=by kernel_rfl
def c164:IFunc:=mkIC (P:=Ga) (f:=164) _ (by unfold Je;rw[Tryz.func164];conv=>lhs;cbv)
theorem c164_ok:Je Ga 164=some c164:=by kernel_rfl
def c165:IFunc:=mkIC (P:=Ga) (f:=165) _ (by unfold Je;rw[Tryz.func165];conv=>lhs;cbv)
theorem c165_ok:Je Ga 165=some c165:=by kernel_rfl
def c166:IFunc:=mkIC (P:=Ga) (f:=166) _ (by unfold Je;rw[Tryz.func166];conv=>lhs;cbv)
theorem c166_ok:Je Ga 166=some c166:=by kernel_rfl
def c167:IFunc:=mkIC (P:=Ga) (f:=167) _ (by unfold Je;rw[Tryz.func167];conv=>lhs;cbv)
theorem c167_ok:Je Ga 167=some c167:=by kernel_rfl
def c170:IFunc:=mkIC (P:=Ga) (f:=170) _ (by unfold Je;rw[Tryz.func170];conv=>lhs;cbv)
theorem c170_ok:Je Ga 170=some c170:=by kernel_rfl
def c173:IFunc:=mkIC (P:=Ga) (f:=173) _ (by unfold Je;rw[Tryz.func173];conv=>lhs;cbv)
theorem c173_ok:Je Ga 173=some c173:=by kernel_rfl
def c174:IFunc:=mkIC (P:=Ga) (f:=174) _ (by unfold Je;rw[Tryz.func174];conv=>lhs;cbv)
theorem c174_ok:Je Ga 174=some c174:=by kernel_rfl
def c175:IFunc:=mkIC (P:=Ga) (f:=175) _ (by unfold Je;rw[Tryz.func175];conv=>lhs;cbv)
theorem c175_ok:Je Ga 175=some c175:=by kernel_rfl
def c176:IFunc:=mkIC (P:=Ga) (f:=176) _ (by unfold Je;rw[Tryz.func176];conv=>lhs;cbv)
theorem c176_ok:Je Ga 176=some c176:=by kernel_rfl
def c179:IFunc:=mkIC (P:=Ga) (f:=179) _ (by unfold Je;rw[Tryz.func179];conv=>lhs;cbv)
theorem c179_ok:Je Ga 179=some c179:=by kernel_rfl
def c182:IFunc:=mkIC (P:=Ga) (f:=182) _ (by unfold Je;rw[Tryz.func182];conv=>lhs;cbv)
theorem c182_ok:Je Ga 182=some c182:=by kernel_rfl
def c183:IFunc:=mkIC (P:=Ga) (f:=183) _ (by unfold Je;rw[Tryz.func183];conv=>lhs;cbv)
theorem c183_ok:Je Ga 183=some c183:=by kernel_rfl
def c184:IFunc:=mkIC (P:=Ga) (f:=184) _ (by unfold Je;rw[Tryz.func184];conv=>lhs;cbv)
theorem c184_ok:Je Ga 184=some c184:=by kernel_rfl
def c185:IFunc:=mkIC (P:=Ga) (f:=185) _ (by unfold Je;rw[Tryz.func185];conv=>lhs;cbv)
theorem c185_ok:Je Ga 185=some c185:=by kernel_rfl
def c197:IFunc:=mkIC (P:=Ga) (f:=197) _ (by unfold Je;rw[Tryz.func197];conv=>lhs;cbv)
theorem c197_ok:Je Ga 197=some c197:=by kernel_rfl
def c198:IFunc:=mkIC (P:=Ga) (f:=198) _ (by unfold Je;rw[Tryz.func198];conv=>lhs;cbv)
theorem c198_ok:Je Ga 198=some c198:=by kernel_rfl
def c199:IFunc:=mkIC (P:=Ga) (f:=199) _ (by unfold Je;rw[Tryz.func199];conv=>lhs;cbv)
theorem c199_ok:Je Ga 199=some c199:=by kernel_rfl
def c201:IFunc:=mkIC (P:=Ga) (f:=201) _ (by unfold Je;rw[Tryz.func201];conv=>lhs;cbv)
theorem c201_ok:Je Ga 201=some c201:=by kernel_rfl
def c208:IFunc:=mkIC (P:=Ga) (f:=208) _ (by unfold Je;rw[Tryz.func208];conv=>lhs;cbv)
theorem c208_ok:Je Ga 208=some c208:=by kernel_rfl
def c215:IFunc:=mkIC (P:=Ga) (f:=215) _ (by unfold Je;rw[Tryz.func215];conv=>lhs;cbv)
theorem c215_ok:Je Ga 215=some c215:=by kernel_rfl
def c216:IFunc:=mkIC (P:=Ga) (f:=216) _ (by unfold Je;rw[Tryz.func216];conv=>lhs;cbv)
theorem c216_ok:Je Ga 216=some c216:=by kernel_rfl
def c217:IFunc:=mkIC (P:=Ga) (f:=217) _ (by unfold Je;rw[Tryz.func217];conv=>lhs;cbv)
theorem c217_ok:Je Ga 217=some c217:=by kernel_rfl
def c218:IFunc:=mkIC (P:=Ga) (f:=218) _ (by unfold Je;rw[Tryz.func218];conv=>lhs;cbv)
theorem c218_ok:Je Ga 218=some c218:=by kernel_rfl
def c222:IFunc:=mkIC (P:=Ga) (f:=222) _ (by unfold Je;rw[Tryz.func222];conv=>lhs;cbv)
theorem c222_ok:Je Ga 222=some c222:=by kernel_rfl
def c223:IFunc:=mkIC (P:=Ga) (f:=223) _ (by unfold Je;rw[Tryz.func223];conv=>lhs;cbv)
theorem c223_ok:Je Ga 223=some c223:=by kernel_rfl
def c225:IFunc:=mkIC (P:=Ga) (f:=225) _ (by unfold Je;rw[Tryz.func225];conv=>lhs;cbv)
theorem c225_ok:Je Ga 225=some c225:=by kernel_rfl
def c226:IFunc:=mkIC (P:=Ga) (f:=226) _ (by unfold Je;rw[Tryz.func226];conv=>lhs;cbv)
theorem c226_ok:Je Ga 226=some c226:=by kernel_rfl
def c232:IFunc:=mkIC (P:=Ga) (f:=232) _ (by unfold Je;rw[Tryz.func232];conv=>lhs;cbv)
theorem c232_ok:Je Ga 232=some c232:=by kernel_rfl
def c233:IFunc:=mkIC (P:=Ga) (f:=233) _ (by unfold Je;rw[Tryz.func233];conv=>lhs;cbv)
theorem c233_ok:Je Ga 233=some c233:=by kernel_rfl
def c234:IFunc:=mkIC (P:=Ga) (f:=234) _ (by unfold Je;rw[Tryz.func234];conv=>lhs;cbv)
theorem c234_ok:Je Ga 234=some c234:=by kernel_rfl
def c235:IFunc:=mkIC (P:=Ga) (f:=235) _ (by unfold Je;rw[Tryz.func235];conv=>lhs;cbv)
theorem c235_ok:Je Ga 235=some c235:=by kernel_rfl
def c236:IFunc:=mkIC (P:=Ga) (f:=236) _ (by unfold Je;rw[Tryz.func236];conv=>lhs;cbv)
theorem c236_ok:Je Ga 236=some c236:=by kernel_rfl
def c238:IFunc:=mkIC (P:=Ga) (f:=238) _ (by unfold Je;rw[Tryz.func238];conv=>lhs;cbv)
theorem c238_ok:Je Ga 238=some c238:=by kernel_rfl
def c241:IFunc:=mkIC (P:=Ga) (f:=241) _ (by unfold Je;rw[Tryz.func241];conv=>lhs;cbv)
theorem c241_ok:Je Ga 241=some c241:=by kernel_rfl
def c242:IFunc:=mkIC (P:=Ga) (f:=242) _ (by unfold Je;rw[Tryz.func242];conv=>lhs;cbv)
theorem c242_ok:Je Ga 242=some c242:=by kernel_rfl
def c245:IFunc:=mkIC (P:=Ga) (f:=245) _ (by unfold Je;rw[Tryz.func245];conv=>lhs;cbv)
theorem c245_ok:Je Ga 245=some c245:=by kernel_rfl
def c249:IFunc:=mkIC (P:=Ga) (f:=249) _ (by unfold Je;rw[Tryz.func249];conv=>lhs;cbv)
theorem c249_ok:Je Ga 249=some c249:=by kernel_rfl
end Go.Cm
end
section
end
end
