/- Texts of the claim, merged: RC. No conditions. -/
import Derived.Test.YtinffhimfoicdaaGreatPq10
namespace Go.Proofs.YtinffhimfoicdaaGreat
open Go Go.RowKit Go.Proofs.YtinffhimfoicdaaGreat.Calc
set_option linter.unusedVariables false
set_option maxRecDepth 1000000
set_option maxHeartbeats 4000000
theorem jzq:PC 26 [jpy] (fun r=>r = .tup [vI 0,vS ⟨#[]⟩]):=ph jac rfl rfl rfl rfl (n:=1000000000) (p:=p26) (by kernel_rfl)
end Go.Proofs.YtinffhimfoicdaaGreat
