/- Texts of the claim, merged: RB. No conditions. -/
import Derived.Test.YtinffhimfoicdaaGreatPq15
namespace Go.Proofs.YtinffhimfoicdaaGreat
open Go Go.RowKit Go.Proofs.YtinffhimfoicdaaGreat.Calc
set_option linter.unusedVariables false
set_option maxRecDepth 1000000
set_option maxHeartbeats 4000000
noncomputable def jzo:Tr XE:=Tr.set jv6 p44 (.law (jkh jsi jnh))
theorem jsn:yz Tryz.prog vy jzo:=jjy (f:=44) jac (jkj (fnT rfl) jzn)
theorem jzp:PC 24 [vS jsi] (fun r=>r = .tup [jpy,vI 0,vI 0]):=ph jsn rfl rfl rfl rfl (n:=1000000000) (p:=p24) (by kernel_rfl)
end Go.Proofs.YtinffhimfoicdaaGreat
