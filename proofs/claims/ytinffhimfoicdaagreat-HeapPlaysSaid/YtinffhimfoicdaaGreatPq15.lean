/- Texts of the claim, merged: RA. No conditions. -/
import Derived.Test.YtinffhimfoicdaaGreatPq10
namespace Go.Proofs.YtinffhimfoicdaaGreat
open Go Go.RowKit Go.Proofs.YtinffhimfoicdaaGreat.Calc
set_option linter.unusedVariables false
set_option maxRecDepth 1000000
set_option maxHeartbeats 4000000
abbrev jxv:BV:=.d (.sl [.sl [] 0,.sl [] 0] 2)
theorem jzm:PC 25 [jxv] (fun r=>r = vS jsi):=ph jac rfl rfl rfl rfl (n:=1000000000) (p:=p25) (by kernel_rfl)
theorem jzn:PC 44 [vS jsi] (fun r=>r = jnh):=ph jac rfl rfl rfl rfl (n:=1000000000) (p:=p44) (by kernel_rfl)
end Go.Proofs.YtinffhimfoicdaaGreat
