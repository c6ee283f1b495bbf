-- Written by a program of this session (wip/tool/mp.py), out of the translation; Lean checks it.
import Derived.Test.YtfhoaakgpkgnfaaProg
import Derived.Below
import Derived.Deep.Draws
import Derived.Deep.AppendLies
import Derived.Maps.AppendAt
import Derived.OwnWalk
import Derived.Laws.BytesArg
import Derived.Laws.MakeOwn
import Derived.Laws.OwnMore
import Derived.Deep.OwnRows
import Derived.Tactics
import Derived.Lib.ConvBytes
import Derived.Laws.Slices
import Derived.WalkKit
import Derived.KernelRfl
import Derived.RowKit3
import Derived.Deep.LoopGhost
import Derived.Deep.QuietTactic
import Derived.BigQuiet
import Derived.WideLaws
import Derived.Deep.DeepCutAuto
import Derived.Deep.CutBlock
import Derived.Deep.RegionHeld3
import Derived.Laws.Rows
import Derived.Lib.AppendStr
import Derived.ArgAppend
import Derived.Laws.IdiomCopy
import Derived.OrdersHeld
import Derived.Laws.BitsLemmas
import Derived.RowKit
import Derived.Test.YtfhoaakgpkgnfaaMore
import Derived.Test.YtfhoaakgpkgnfaaGiven
import Derived.Test.YtfhoaakgpkgnfaaWWords
import Derived.Test.YtfhoaakgpkgnfaaWLast
import Derived.Test.YtfhoaakgpkgnfaaWTab
import Derived.Test.YtfhoaakgpkgnfaaWFour
import Derived.Test.YtfhoaakgpkgnfaaWQPut
import Derived.Test.YtfhoaakgpkgnfaaWApart
import Derived.Test.YtfhoaakgpkgnfaaWArr
import Derived.Test.YtfhoaakgpkgnfaaWZeros
import Derived.Test.YtfhoaakgpkgnfaaWFoot
import Derived.Test.YtfhoaakgpkgnfaaWKept
import Derived.Test.YtfhoaakgpkgnfaaWShare
import Derived.Test.YtfhoaakgpkgnfaaWN
import Derived.Test.YtfhoaakgpkgnfaaWFootNe
import Derived.Test.YtfhoaakgpkgnfaaWAt
import Derived.Test.YtfhoaakgpkgnfaaWEqStruct
import Derived.Test.YtfhoaakgpkgnfaaWRepsOne
import Derived.Test.YtfhoaakgpkgnfaaWInv
import Derived.Test.YtfhoaakgpkgnfaaWInvWords
import Derived.Test.YtfhoaakgpkgnfaaWGuard
import Derived.Test.YtfhoaakgpkgnfaaWNEv
import Derived.Test.YtfhoaakgpkgnfaaWMore
namespace Go.Proofs.Ytfhoaakgpkgnfaa.Q
open Go.RowKit Go.Proofs.YtfhoaakgpkgnfaaW.PrintWords Go.Proofs.YtfhoaakgpkgnfaaW.PrintLast Go.Proofs.YtfhoaakgpkgnfaaW.PrintMore
attribute [local go_sem] max2_int min2_int max_two min_two max_three min_three max_four min_four   -- for this text's walks alone
set_option linter.unusedVariables false
set_option linter.unusedSimpArgs false



def errW : Option Int → Value
  | none => .nilIface
  | some c => .iface 0 (.int .i64 c)
theorem errW_none : errW none = .nilIface := rfl
theorem errW_some (c : Int) : errW (some c) = .iface 0 (.int .i64 c) := rfl

theorem info5 : (Try.prog.info? 5).map (fun i => (i.zero, i.size, i.bytes)) = some (some (.int .u8 0), 1, 1) := by kernel_rfl
theorem info21 : (Try.prog.info? 21).map (fun i => (i.zero, i.size, i.bytes)) = some (some (.int .i32 0), 1, 4) := by kernel_rfl
theorem fld43_1 (x0 x1 x2 : Value) (w : World) : (Instr.field 43 (.agg #[x0, x1, x2]) 1).run Try.prog w = .ok (x1) w := by kernel_rfl
-- the values' own types

end Go.Proofs.Ytfhoaakgpkgnfaa.Q
