/- Texts of the claim, merged: RA. No conditions. -/
import Derived.Test.YtinffhimfoicdaaGreatPr6
/- The closed run, first part: the source, its words. No conditions. -/
namespace Go.Proofs.YtinffhimfoicdaaGreat
open Go Go.RowKit Go.Proofs.YtinffhimfoicdaaGreat.Calc
set_option linter.unusedVariables false
set_option maxRecDepth 1000000
set_option maxHeartbeats 4000000
abbrev nilL : BV := .d (.sl [.sl [] 0, .sl [] 0] 2)
theorem cl25 : PC 25 [nilL] (fun r => r = vS srcB) := pc_closed mTabOK rfl rfl rfl rfl (n := 1000000000) (p := p25) (by kernel_rfl)
theorem cl44 : PC 44 [vS srcB] (fun r => r = wordsV) := pc_closed mTabOK rfl rfl rfl rfl (n := 1000000000) (p := p44) (by kernel_rfl)
end Go.Proofs.YtinffhimfoicdaaGreat
