-- Written by a program of this session (wip/tool/mp.py), out of the translation; Lean checks it.
import Derived.Test.YthfkagkbggpjbaaProg
import Derived.Below
import Derived.Deep.Draws
import Derived.Deep.AppendLies
import Derived.Maps.AppendAt
import Derived.OwnWalk
import Derived.Laws.BytesArg
import Derived.Laws.MakeOwn
import Derived.Laws.OwnMore
import Derived.Deep.OwnRows
import Derived.Tactics
import Derived.Lib.ConvBytes
import Derived.Laws.Slices
import Derived.WalkKit
import Derived.KernelRfl
import Derived.RowKit3
import Derived.Deep.LoopGhost
import Derived.Deep.QuietTactic
import Derived.BigQuiet
import Derived.WideLaws
import Derived.Deep.DeepCutAuto
import Derived.Deep.CutBlock
import Derived.Deep.RegionHeld3
import Derived.Laws.Rows
import Derived.Lib.AppendStr
import Derived.ArgAppend
import Derived.Laws.IdiomCopy
import Derived.OrdersHeld
import Derived.Laws.BitsLemmas
import Derived.RowKit
import Derived.Test.YthfkagkbggpjbaaMore
import Derived.Test.YthfkagkbggpjbaaWWords
import Derived.Test.YthfkagkbggpjbaaWLast
import Derived.Test.YthfkagkbggpjbaaWTab
import Derived.Test.YthfkagkbggpjbaaWFour
import Derived.Test.YthfkagkbggpjbaaWQPut
import Derived.Test.YthfkagkbggpjbaaWApart
import Derived.Test.YthfkagkbggpjbaaWArr
import Derived.Test.YthfkagkbggpjbaaWZeros
import Derived.Test.YthfkagkbggpjbaaWFoot
import Derived.Test.YthfkagkbggpjbaaWKept
import Derived.Test.YthfkagkbggpjbaaWShare
import Derived.Test.YthfkagkbggpjbaaWN
import Derived.Test.YthfkagkbggpjbaaWFootNe
import Derived.Test.YthfkagkbggpjbaaWAt
import Derived.Test.YthfkagkbggpjbaaWEqStruct
import Derived.Test.YthfkagkbggpjbaaWRepsOne
import Derived.Test.YthfkagkbggpjbaaWInv
import Derived.Test.YthfkagkbggpjbaaWInvWords
import Derived.Test.YthfkagkbggpjbaaWGuard
import Derived.Test.YthfkagkbggpjbaaWNEv
import Derived.Test.YthfkagkbggpjbaaWMore
namespace Go.Proofs.Ythfkagkbggpjbaa.Q
open Go.RowKit Go.Proofs.YthfkagkbggpjbaaW.PrintWords Go.Proofs.YthfkagkbggpjbaaW.PrintLast Go.Proofs.YthfkagkbggpjbaaW.PrintMore
attribute [local go_sem] max2_int min2_int max_two min_two max_three min_three max_four min_four   -- for this text's walks alone
set_option linter.unusedVariables false
set_option linter.unusedSimpArgs false



def errW : Option Int → Value
  | none => .nilIface
  | some c => .iface 0 (.int .i64 c)
theorem errW_none : errW none = .nilIface := rfl
theorem errW_some (c : Int) : errW (some c) = .iface 0 (.int .i64 c) := rfl

theorem info9 : (Try.prog.info? 9).map (fun i => (i.zero, i.size, i.bytes)) = some (some (.string ⟨#[]⟩), 1, 16) := by kernel_rfl
theorem info21 : (Try.prog.info? 21).map (fun i => (i.zero, i.size, i.bytes)) = some (some (.int .i32 0), 1, 4) := by kernel_rfl
-- the values' own types

end Go.Proofs.Ythfkagkbggpjbaa.Q
