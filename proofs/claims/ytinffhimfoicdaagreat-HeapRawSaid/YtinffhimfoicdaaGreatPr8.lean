/- Texts of the claim, merged: RB. No conditions. -/
import Derived.Test.YtinffhimfoicdaaGreatPr7
/- The closed run, second part: the program. No conditions. -/
namespace Go.Proofs.YtinffhimfoicdaaGreat
open Go Go.RowKit Go.Proofs.YtinffhimfoicdaaGreat.Calc
set_option linter.unusedVariables false
set_option maxRecDepth 1000000
set_option maxHeartbeats 4000000
noncomputable def rTab : Tr XE := Tr.set mTab p44 (.law (lawOne srcB wordsV))
theorem rTabOK : TabOK Tryz.prog mTabs rTab := tab_set (f := 44) mTabOK (lawOne_ok (fnT rfl) cl44)
theorem cl24 : PC 24 [vS srcB] (fun r => r = .tup [progV, vI 0, vI 0]) := pc_closed rTabOK rfl rfl rfl rfl (n := 1000000000) (p := p24) (by kernel_rfl)
end Go.Proofs.YtinffhimfoicdaaGreat
