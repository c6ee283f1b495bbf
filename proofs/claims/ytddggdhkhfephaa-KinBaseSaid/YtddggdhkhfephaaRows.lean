/-
  No cell of these rows narrows 'for every input' (looked for: loops, veiled, ifaces, maps, wideKeys, modest, calm, conditions, laid).
  DERIVED. THE GIVEN ROWS OF THIS SEAT. 3 by the template 'for every input the law returns true; each argument reads behind the call as it read before'; 0 by the template 'total and deterministic' (their statements: YtddggdhkhfephaaTotals.lean).
  GIVEN WITH THE SEED: the statements are not yours to turn. If you find one false, say at which input.
  Laid BY PROGRAM, IN A SANDBOX (cutbox-rows.mjs): the forced cells as the released guide's own fill.sh prints them over the translation e1a54f087b40aad7… (all of the seat's roots in one cut). By AI agents, Wed Nov 11 2026. No macro, syntax, notation, axiom, sorry.
-/
import Derived.Test.YtddggdhkhfephaaChecked
import GoSem.Claim
import GoSem.ClaimJoined
import GoSem.ClaimMapViews
import Derived.JoinedTies
import Derived.KernelRfl
namespace Go.Proofs.Ytddggdhkhfephaa
/- THE CELL 'sum', in the pinned program and in every row, IS THE sha256 OF THE DUMP (.gsa) THAT YtddggdhkhfephaaProg.lean LOADS. Nothing in Lean hashes anything: it is a label: what it is worth is what the hold of that sum in a sandbox is worth. -/
noncomputable def Try.pinned : Pinned := { name := "ytddggdhkhfephaa", sum := "e1a54f087b40aad75adc49a0853b4c313d96235e93379170353c8115c34375da", checked := Try.checked }
namespace Rows
def none {H : Type} : Left H := { results := [], args := [] }

/-- 'changelinglaw6.KinOrders': WHATEVER THE INPUT: true; the input reads as it did. -/
def kinOrdersSpec : ChangeSpec := { name := "kinOrders", fn := fun _ => fun
  | [d1, d2, d3, d4] => { results := [.lit (.bool true)], args := [d1, d2, d3, d4] }
  | _ => none }
def kinOrdersRow : OpenClaim := { program := "ytddggdhkhfephaa", sum := "e1a54f087b40aad75adc49a0853b4c313d96235e93379170353c8115c34375da", func := "changeling/changelinglaw6.KinOrders", spec := "kinOrders", unfollowed := true, recurses := true, apart := false }
def KinOrdersSaid : Prop := kinOrdersRow.holds Try.pinned (OpenSpec.ofChange kinOrdersSpec)

/-- ITS FALSE NEIGHBOUR: 'it returns false'. Refute it at one input. -/
def kinOrdersWrong : ChangeSpec := { name := "kinOrders", fn := fun _ => fun
  | [d1, d2, d3, d4] => { results := [.lit (.bool false)], args := [d1, d2, d3, d4] }
  | _ => none }
def KinOrdersWrongFalsely : Prop := kinOrdersRow.holds Try.pinned (OpenSpec.ofChange kinOrdersWrong)

/-- 'changelinglaw6.KinKids': WHATEVER THE INPUT: true; the input reads as it did. -/
def kinKidsSpec : ChangeSpec := { name := "kinKids", fn := fun _ => fun
  | [d1, d2] => { results := [.lit (.bool true)], args := [d1, d2] }
  | _ => none }
def kinKidsRow : OpenClaim := { program := "ytddggdhkhfephaa", sum := "e1a54f087b40aad75adc49a0853b4c313d96235e93379170353c8115c34375da", func := "changeling/changelinglaw6.KinKids", spec := "kinKids", unfollowed := true, recurses := true, apart := false }
def KinKidsSaid : Prop := kinKidsRow.holds Try.pinned (OpenSpec.ofChange kinKidsSpec)

/-- ITS FALSE NEIGHBOUR: 'it returns false'. Refute it at one input. -/
def kinKidsWrong : ChangeSpec := { name := "kinKids", fn := fun _ => fun
  | [d1, d2] => { results := [.lit (.bool false)], args := [d1, d2] }
  | _ => none }
def KinKidsWrongFalsely : Prop := kinKidsRow.holds Try.pinned (OpenSpec.ofChange kinKidsWrong)

/-- 'changelinglaw6.KinBase': WHATEVER THE INPUT: true; the input reads as it did. -/
def kinBaseSpec : ChangeSpec := { name := "kinBase", fn := fun _ => fun
  | [d1, d2, d3] => { results := [.lit (.bool true)], args := [d1, d2, d3] }
  | _ => none }
def kinBaseRow : OpenClaim := { program := "ytddggdhkhfephaa", sum := "e1a54f087b40aad75adc49a0853b4c313d96235e93379170353c8115c34375da", func := "changeling/changelinglaw6.KinBase", spec := "kinBase", unfollowed := true, recurses := true, apart := false }
def KinBaseSaid : Prop := kinBaseRow.holds Try.pinned (OpenSpec.ofChange kinBaseSpec)

/-- ITS FALSE NEIGHBOUR: 'it returns false'. Refute it at one input. -/
def kinBaseWrong : ChangeSpec := { name := "kinBase", fn := fun _ => fun
  | [d1, d2, d3] => { results := [.lit (.bool false)], args := [d1, d2, d3] }
  | _ => none }
def KinBaseWrongFalsely : Prop := kinBaseRow.holds Try.pinned (OpenSpec.ofChange kinBaseWrong)

/- THE SECOND FORM. 'bulk': how many values and letters a reading holds, each counted each time it is reached (what is shared counts as often as it is met; a slice's spare places count too). A statement '..UptoSaid' is the law's where the arguments, and the package variables that the reading takes, are together of bulk at most 1048576: NARROWER than '..Said'. Prove '..Said' where nothing that the law and all that it calls make is longer than what came in: it says more and counts as full. Else prove '..UptoSaid'. A law counts once. -/
mutual
def uptoBulk {H : Type} : DataW H → Nat
  | .lit (.string bytes) => bytes.length + 1
  | .lit _ => 1
  | .nil => 1
  | .ptr d => uptoBulk d + 1
  | .slice elems spare => uptoBulkAll elems + uptoBulkAll spare + 1
  | .agg parts => uptoBulkAll parts + 1
  | .iface _ d => uptoBulk d + 1
  | .map entries => uptoBulkEntries entries + 1
  | .held _ => 1
def uptoBulkAll {H : Type} : List (DataW H) → Nat
  | [] => 0
  | d :: r => uptoBulk d + uptoBulkAll r
def uptoBulkEntries {H : Type} : List (Lit × DataW H) → Nat
  | [] => 0
  | x :: r => uptoBulkEntry x + uptoBulkEntries r
def uptoBulkEntry {H : Type} : Lit × DataW H → Nat
  | (.string bytes, d) => bytes.length + uptoBulk d + 1
  | (_, d) => uptoBulk d + 1
 end
def uptoSmall : (H : Type) → List (DataW H) → Bool := fun _ ds => decide (uptoBulkAll ds ≤ 1048576)
def OpenSpec.upto (s : _root_.Go.ChangeSpec) : _root_.Go.OpenSpec := { _root_.Go.OpenSpec.ofChange s with cond := some uptoSmall }

/-- 'changelinglaw6.KinOrders', WHERE WHAT IT READS IS OF BULK AT MOST 1048576: true; the input reads as it did. -/
def kinOrdersUptoRow : OpenClaim := { program := "ytddggdhkhfephaa", sum := "e1a54f087b40aad75adc49a0853b4c313d96235e93379170353c8115c34375da", func := "changeling/changelinglaw6.KinOrders", spec := "kinOrders", unfollowed := true, recurses := true, apart := false, narrowed := true }
def KinOrdersUptoSaid : Prop := kinOrdersUptoRow.holds Try.pinned (OpenSpec.upto kinOrdersSpec)

/-- 'changelinglaw6.KinKids', WHERE WHAT IT READS IS OF BULK AT MOST 1048576: true; the input reads as it did. -/
def kinKidsUptoRow : OpenClaim := { program := "ytddggdhkhfephaa", sum := "e1a54f087b40aad75adc49a0853b4c313d96235e93379170353c8115c34375da", func := "changeling/changelinglaw6.KinKids", spec := "kinKids", unfollowed := true, recurses := true, apart := false, narrowed := true }
def KinKidsUptoSaid : Prop := kinKidsUptoRow.holds Try.pinned (OpenSpec.upto kinKidsSpec)

/-- 'changelinglaw6.KinBase', WHERE WHAT IT READS IS OF BULK AT MOST 1048576: true; the input reads as it did. -/
def kinBaseUptoRow : OpenClaim := { program := "ytddggdhkhfephaa", sum := "e1a54f087b40aad75adc49a0853b4c313d96235e93379170353c8115c34375da", func := "changeling/changelinglaw6.KinBase", spec := "kinBase", unfollowed := true, recurses := true, apart := false, narrowed := true }
def KinBaseUptoSaid : Prop := kinBaseUptoRow.holds Try.pinned (OpenSpec.upto kinBaseSpec)

end Rows
end Go.Proofs.Ytddggdhkhfephaa
