/-
  No cell of these rows narrows 'for every input' (looked for: loops, veiled, ifaces, maps, wideKeys, modest, calm, conditions, laid).
  DERIVED. THE GIVEN ROWS OF THIS SEAT. 3 by the template 'for every input the law returns true; each argument reads behind the call as it read before'; 0 by the template 'total and deterministic' (their statements: YtokilnhpepbjlaaGreatTotals.lean).
  GIVEN WITH THE SEED: the statements are not yours to turn. If you find one false, say at which input.
  Laid BY PROGRAM, IN A SANDBOX (cutbox-rows.mjs): the forced cells as the released guide's own fill.sh prints them over the translation 2946b58e9ff60677… (all of the seat's roots in one cut). By AI agents, Wed Nov 11 2026. No macro, syntax, notation, axiom, sorry.
-/
import Derived.Test.YtokilnhpepbjlaaGreatChecked
import GoSem.Claim
import GoSem.ClaimJoined
import GoSem.ClaimMapViews
import Derived.JoinedTies
import Derived.KernelRfl
namespace Go.Proofs.YtokilnhpepbjlaaGreat
/- THE CELL 'sum', in the pinned program and in every row, IS THE sha256 OF THE DUMP (.gsa) THAT YtokilnhpepbjlaaGreatProg.lean LOADS. Nothing in Lean hashes anything: it is a label: what it is worth is what the hold of that sum in a sandbox is worth. -/
noncomputable def Tryz.pinned : Pinned := { name := "ytokilnhpepbjlaagreat", sum := "2946b58e9ff60677d517795702729467655e1700506295ed3ea941b6a715a220", checked := Tryz.checked }
namespace Rows
def none {H : Type} : Left H := { results := [], args := [] }

/-- 'changelinglaw7.FieldFinds': WHATEVER THE INPUT: true; the input reads as it did. -/
def fieldFindsSpec : ChangeSpec := { name := "fieldFinds", fn := fun _ => fun
  | [d1, d2, d3] => { results := [.lit (.bool true)], args := [d1, d2, d3] }
  | _ => none }
def fieldFindsRow : OpenClaim := { program := "ytokilnhpepbjlaagreat", sum := "2946b58e9ff60677d517795702729467655e1700506295ed3ea941b6a715a220", func := "changeling/changelinglaw7.FieldFinds", spec := "fieldFinds", unfollowed := true, recurses := true, apart := false }
def FieldFindsSaid : Prop := fieldFindsRow.holds Tryz.pinned (OpenSpec.ofChange fieldFindsSpec)

/-- ITS FALSE NEIGHBOUR: 'it returns false'. Refute it at one input. -/
def fieldFindsWrong : ChangeSpec := { name := "fieldFinds", fn := fun _ => fun
  | [d1, d2, d3] => { results := [.lit (.bool false)], args := [d1, d2, d3] }
  | _ => none }
def FieldFindsWrongFalsely : Prop := fieldFindsRow.holds Tryz.pinned (OpenSpec.ofChange fieldFindsWrong)

/-- 'changelinglaw7.FieldAlls': WHATEVER THE INPUT: true; the input reads as it did. -/
def fieldAllsSpec : ChangeSpec := { name := "fieldAlls", fn := fun _ => fun
  | [d1, d2] => { results := [.lit (.bool true)], args := [d1, d2] }
  | _ => none }
def fieldAllsRow : OpenClaim := { program := "ytokilnhpepbjlaagreat", sum := "2946b58e9ff60677d517795702729467655e1700506295ed3ea941b6a715a220", func := "changeling/changelinglaw7.FieldAlls", spec := "fieldAlls", unfollowed := true, recurses := true, apart := false }
def FieldAllsSaid : Prop := fieldAllsRow.holds Tryz.pinned (OpenSpec.ofChange fieldAllsSpec)

/-- ITS FALSE NEIGHBOUR: 'it returns false'. Refute it at one input. -/
def fieldAllsWrong : ChangeSpec := { name := "fieldAlls", fn := fun _ => fun
  | [d1, d2] => { results := [.lit (.bool false)], args := [d1, d2] }
  | _ => none }
def FieldAllsWrongFalsely : Prop := fieldAllsRow.holds Tryz.pinned (OpenSpec.ofChange fieldAllsWrong)

/-- 'changelinglaw7.FieldHides': WHATEVER THE INPUT: true; the input reads as it did. -/
def fieldHidesSpec : ChangeSpec := { name := "fieldHides", fn := fun _ => fun
  | [d1, d2, d3] => { results := [.lit (.bool true)], args := [d1, d2, d3] }
  | _ => none }
def fieldHidesRow : OpenClaim := { program := "ytokilnhpepbjlaagreat", sum := "2946b58e9ff60677d517795702729467655e1700506295ed3ea941b6a715a220", func := "changeling/changelinglaw7.FieldHides", spec := "fieldHides", unfollowed := true, recurses := true, apart := false }
def FieldHidesSaid : Prop := fieldHidesRow.holds Tryz.pinned (OpenSpec.ofChange fieldHidesSpec)

/-- ITS FALSE NEIGHBOUR: 'it returns false'. Refute it at one input. -/
def fieldHidesWrong : ChangeSpec := { name := "fieldHides", fn := fun _ => fun
  | [d1, d2, d3] => { results := [.lit (.bool false)], args := [d1, d2, d3] }
  | _ => none }
def FieldHidesWrongFalsely : Prop := fieldHidesRow.holds Tryz.pinned (OpenSpec.ofChange fieldHidesWrong)

/- THE SECOND FORM. 'bulk': how many values and letters a reading holds, each counted each time it is reached (what is shared counts as often as it is met; a slice's spare places count too). A statement '..UptoSaid' is the law's where the arguments, and the package variables that the reading takes, are together of bulk at most 1048576: NARROWER than '..Said'. Prove '..Said' where nothing that the law and all that it calls make is longer than what came in: it says more and counts as full. Else prove '..UptoSaid'. A law counts once. -/
mutual
def uptoBulk {H : Type} : DataW H → Nat
  | .lit (.string bytes) => bytes.length + 1
  | .lit _ => 1
  | .nil => 1
  | .ptr d => uptoBulk d + 1
  | .slice elems spare => uptoBulkAll elems + uptoBulkAll spare + 1
  | .agg parts => uptoBulkAll parts + 1
  | .iface _ d => uptoBulk d + 1
  | .map entries => uptoBulkEntries entries + 1
  | .held _ => 1
def uptoBulkAll {H : Type} : List (DataW H) → Nat
  | [] => 0
  | d :: r => uptoBulk d + uptoBulkAll r
def uptoBulkEntries {H : Type} : List (Lit × DataW H) → Nat
  | [] => 0
  | x :: r => uptoBulkEntry x + uptoBulkEntries r
def uptoBulkEntry {H : Type} : Lit × DataW H → Nat
  | (.string bytes, d) => bytes.length + uptoBulk d + 1
  | (_, d) => uptoBulk d + 1
 end
def uptoSmall : (H : Type) → List (DataW H) → Bool := fun _ ds => decide (uptoBulkAll ds ≤ 1048576)
def OpenSpec.upto (s : _root_.Go.ChangeSpec) : _root_.Go.OpenSpec := { _root_.Go.OpenSpec.ofChange s with cond := some uptoSmall }

/-- 'changelinglaw7.FieldFinds', WHERE WHAT IT READS IS OF BULK AT MOST 1048576: true; the input reads as it did. -/
def fieldFindsUptoRow : OpenClaim := { program := "ytokilnhpepbjlaagreat", sum := "2946b58e9ff60677d517795702729467655e1700506295ed3ea941b6a715a220", func := "changeling/changelinglaw7.FieldFinds", spec := "fieldFinds", unfollowed := true, recurses := true, apart := false, narrowed := true }
def FieldFindsUptoSaid : Prop := fieldFindsUptoRow.holds Tryz.pinned (OpenSpec.upto fieldFindsSpec)

/-- 'changelinglaw7.FieldAlls', WHERE WHAT IT READS IS OF BULK AT MOST 1048576: true; the input reads as it did. -/
def fieldAllsUptoRow : OpenClaim := { program := "ytokilnhpepbjlaagreat", sum := "2946b58e9ff60677d517795702729467655e1700506295ed3ea941b6a715a220", func := "changeling/changelinglaw7.FieldAlls", spec := "fieldAlls", unfollowed := true, recurses := true, apart := false, narrowed := true }
def FieldAllsUptoSaid : Prop := fieldAllsUptoRow.holds Tryz.pinned (OpenSpec.upto fieldAllsSpec)

/-- 'changelinglaw7.FieldHides', WHERE WHAT IT READS IS OF BULK AT MOST 1048576: true; the input reads as it did. -/
def fieldHidesUptoRow : OpenClaim := { program := "ytokilnhpepbjlaagreat", sum := "2946b58e9ff60677d517795702729467655e1700506295ed3ea941b6a715a220", func := "changeling/changelinglaw7.FieldHides", spec := "fieldHides", unfollowed := true, recurses := true, apart := false, narrowed := true }
def FieldHidesUptoSaid : Prop := fieldHidesUptoRow.holds Tryz.pinned (OpenSpec.upto fieldHidesSpec)

end Rows
end Go.Proofs.YtokilnhpepbjlaaGreat
