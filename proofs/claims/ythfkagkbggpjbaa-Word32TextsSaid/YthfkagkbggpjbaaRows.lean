/-
  No cell of these rows narrows 'for every input' (looked for: loops, veiled, ifaces, maps, wideKeys, modest, calm, conditions, laid).
  DERIVED. THE GIVEN ROWS OF THIS SEAT. 4 by the template 'for every input the law returns true; each argument reads behind the call as it read before'; 0 by the template 'total and deterministic' (their statements: YthfkagkbggpjbaaTotals.lean).
  GIVEN WITH THE SEED: the statements are not yours to turn. If you find one false, say at which input.
  Laid BY PROGRAM, IN A SANDBOX (cutbox-rows.mjs): the forced cells as the released guide's own fill.sh prints them over the translation a62a75ae3c9257c7… (all of the seat's roots in one cut). By AI agents, Wed Nov 11 2026. No macro, syntax, notation, axiom, sorry.
-/
import Derived.Test.YthfkagkbggpjbaaChecked
import GoSem.Claim
import GoSem.ClaimJoined
import GoSem.ClaimMapViews
import Derived.JoinedTies
import Derived.KernelRfl
namespace Go.Proofs.Ythfkagkbggpjbaa
/- THE CELL 'sum', in the pinned program and in every row, IS THE sha256 OF THE DUMP (.gsa) THAT YthfkagkbggpjbaaProg.lean LOADS. Nothing in Lean hashes anything: it is a label: what it is worth is what the hold of that sum in a sandbox is worth. -/
noncomputable def Try.pinned : Pinned := { name := "ythfkagkbggpjbaa", sum := "a62a75ae3c9257c76738e7bdba8ba3a977063b69448d853db848e0ec4b078f70", checked := Try.checked }
namespace Rows
def none {H : Type} : Left H := { results := [], args := [] }

/-- 'changelinglaw13.Word32Asks': WHATEVER THE INPUT: true; the input reads as it did. -/
def word32AsksSpec : ChangeSpec := { name := "word32Asks", fn := fun _ => fun
  | [d1, d2, d3, d4] => { results := [.lit (.bool true)], args := [d1, d2, d3, d4] }
  | _ => none }
def word32AsksRow : OpenClaim := { program := "ythfkagkbggpjbaa", sum := "a62a75ae3c9257c76738e7bdba8ba3a977063b69448d853db848e0ec4b078f70", func := "changeling/changelinglaw13.Word32Asks", spec := "word32Asks", apart := false }
def Word32AsksSaid : Prop := word32AsksRow.holds Try.pinned (OpenSpec.ofChange word32AsksSpec)

/-- ITS FALSE NEIGHBOUR: 'it returns false'. Refute it at one input. -/
def word32AsksWrong : ChangeSpec := { name := "word32Asks", fn := fun _ => fun
  | [d1, d2, d3, d4] => { results := [.lit (.bool false)], args := [d1, d2, d3, d4] }
  | _ => none }
def Word32AsksWrongFalsely : Prop := word32AsksRow.holds Try.pinned (OpenSpec.ofChange word32AsksWrong)

/-- 'changelinglaw13.Word32Laws': WHATEVER THE INPUT: true; the input reads as it did. -/
def word32LawsSpec : ChangeSpec := { name := "word32Laws", fn := fun _ => fun
  | [d1, d2] => { results := [.lit (.bool true)], args := [d1, d2] }
  | _ => none }
def word32LawsRow : OpenClaim := { program := "ythfkagkbggpjbaa", sum := "a62a75ae3c9257c76738e7bdba8ba3a977063b69448d853db848e0ec4b078f70", func := "changeling/changelinglaw13.Word32Laws", spec := "word32Laws", apart := false }
def Word32LawsSaid : Prop := word32LawsRow.holds Try.pinned (OpenSpec.ofChange word32LawsSpec)

/-- ITS FALSE NEIGHBOUR: 'it returns false'. Refute it at one input. -/
def word32LawsWrong : ChangeSpec := { name := "word32Laws", fn := fun _ => fun
  | [d1, d2] => { results := [.lit (.bool false)], args := [d1, d2] }
  | _ => none }
def Word32LawsWrongFalsely : Prop := word32LawsRow.holds Try.pinned (OpenSpec.ofChange word32LawsWrong)

/-- 'changelinglaw13.Word32Texts': WHATEVER THE INPUT: true; the input reads as it did. -/
def word32TextsSpec : ChangeSpec := { name := "word32Texts", fn := fun _ => fun
  | [d1, d2] => { results := [.lit (.bool true)], args := [d1, d2] }
  | _ => none }
def word32TextsRow : OpenClaim := { program := "ythfkagkbggpjbaa", sum := "a62a75ae3c9257c76738e7bdba8ba3a977063b69448d853db848e0ec4b078f70", func := "changeling/changelinglaw13.Word32Texts", spec := "word32Texts", apart := false }
def Word32TextsSaid : Prop := word32TextsRow.holds Try.pinned (OpenSpec.ofChange word32TextsSpec)

/-- ITS FALSE NEIGHBOUR: 'it returns false'. Refute it at one input. -/
def word32TextsWrong : ChangeSpec := { name := "word32Texts", fn := fun _ => fun
  | [d1, d2] => { results := [.lit (.bool false)], args := [d1, d2] }
  | _ => none }
def Word32TextsWrongFalsely : Prop := word32TextsRow.holds Try.pinned (OpenSpec.ofChange word32TextsWrong)

/-- 'changelinglaw13.Word32Wraps': WHATEVER THE INPUT: true; the input reads as it did. -/
def word32WrapsSpec : ChangeSpec := { name := "word32Wraps", fn := fun _ => fun
  | [d] => { results := [.lit (.bool true)], args := [d] }
  | _ => none }
def word32WrapsRow : OpenClaim := { program := "ythfkagkbggpjbaa", sum := "a62a75ae3c9257c76738e7bdba8ba3a977063b69448d853db848e0ec4b078f70", func := "changeling/changelinglaw13.Word32Wraps", spec := "word32Wraps", apart := false }
def Word32WrapsSaid : Prop := word32WrapsRow.holds Try.pinned (OpenSpec.ofChange word32WrapsSpec)

/-- ITS FALSE NEIGHBOUR: 'it returns false'. Refute it at one input. -/
def word32WrapsWrong : ChangeSpec := { name := "word32Wraps", fn := fun _ => fun
  | [d] => { results := [.lit (.bool false)], args := [d] }
  | _ => none }
def Word32WrapsWrongFalsely : Prop := word32WrapsRow.holds Try.pinned (OpenSpec.ofChange word32WrapsWrong)

/- THE SECOND FORM. 'bulk': how many values and letters a reading holds, each counted each time it is reached (what is shared counts as often as it is met; a slice's spare places count too). A statement '..UptoSaid' is the law's where the arguments, and the package variables that the reading takes, are together of bulk at most 1048576: NARROWER than '..Said'. Prove '..Said' where nothing that the law and all that it calls make is longer than what came in: it says more and counts as full. Else prove '..UptoSaid'. A law counts once. -/
mutual
def uptoBulk {H : Type} : DataW H → Nat
  | .lit (.string bytes) => bytes.length + 1
  | .lit _ => 1
  | .nil => 1
  | .ptr d => uptoBulk d + 1
  | .slice elems spare => uptoBulkAll elems + uptoBulkAll spare + 1
  | .agg parts => uptoBulkAll parts + 1
  | .iface _ d => uptoBulk d + 1
  | .map entries => uptoBulkEntries entries + 1
  | .held _ => 1
def uptoBulkAll {H : Type} : List (DataW H) → Nat
  | [] => 0
  | d :: r => uptoBulk d + uptoBulkAll r
def uptoBulkEntries {H : Type} : List (Lit × DataW H) → Nat
  | [] => 0
  | x :: r => uptoBulkEntry x + uptoBulkEntries r
def uptoBulkEntry {H : Type} : Lit × DataW H → Nat
  | (.string bytes, d) => bytes.length + uptoBulk d + 1
  | (_, d) => uptoBulk d + 1
 end
def uptoSmall : (H : Type) → List (DataW H) → Bool := fun _ ds => decide (uptoBulkAll ds ≤ 1048576)
def OpenSpec.upto (s : _root_.Go.ChangeSpec) : _root_.Go.OpenSpec := { _root_.Go.OpenSpec.ofChange s with cond := some uptoSmall }

/-- 'changelinglaw13.Word32Asks', WHERE WHAT IT READS IS OF BULK AT MOST 1048576: true; the input reads as it did. -/
def word32AsksUptoRow : OpenClaim := { program := "ythfkagkbggpjbaa", sum := "a62a75ae3c9257c76738e7bdba8ba3a977063b69448d853db848e0ec4b078f70", func := "changeling/changelinglaw13.Word32Asks", spec := "word32Asks", apart := false, narrowed := true }
def Word32AsksUptoSaid : Prop := word32AsksUptoRow.holds Try.pinned (OpenSpec.upto word32AsksSpec)

/-- 'changelinglaw13.Word32Laws', WHERE WHAT IT READS IS OF BULK AT MOST 1048576: true; the input reads as it did. -/
def word32LawsUptoRow : OpenClaim := { program := "ythfkagkbggpjbaa", sum := "a62a75ae3c9257c76738e7bdba8ba3a977063b69448d853db848e0ec4b078f70", func := "changeling/changelinglaw13.Word32Laws", spec := "word32Laws", apart := false, narrowed := true }
def Word32LawsUptoSaid : Prop := word32LawsUptoRow.holds Try.pinned (OpenSpec.upto word32LawsSpec)

/-- 'changelinglaw13.Word32Texts', WHERE WHAT IT READS IS OF BULK AT MOST 1048576: true; the input reads as it did. -/
def word32TextsUptoRow : OpenClaim := { program := "ythfkagkbggpjbaa", sum := "a62a75ae3c9257c76738e7bdba8ba3a977063b69448d853db848e0ec4b078f70", func := "changeling/changelinglaw13.Word32Texts", spec := "word32Texts", apart := false, narrowed := true }
def Word32TextsUptoSaid : Prop := word32TextsUptoRow.holds Try.pinned (OpenSpec.upto word32TextsSpec)

/-- 'changelinglaw13.Word32Wraps', WHERE WHAT IT READS IS OF BULK AT MOST 1048576: true; the input reads as it did. -/
def word32WrapsUptoRow : OpenClaim := { program := "ythfkagkbggpjbaa", sum := "a62a75ae3c9257c76738e7bdba8ba3a977063b69448d853db848e0ec4b078f70", func := "changeling/changelinglaw13.Word32Wraps", spec := "word32Wraps", apart := false, narrowed := true }
def Word32WrapsUptoSaid : Prop := word32WrapsUptoRow.holds Try.pinned (OpenSpec.upto word32WrapsSpec)

end Rows
end Go.Proofs.Ythfkagkbggpjbaa
