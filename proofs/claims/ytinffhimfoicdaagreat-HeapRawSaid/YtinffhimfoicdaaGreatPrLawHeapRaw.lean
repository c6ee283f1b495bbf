/- HeapRaw: for every program, raw ones too, the call returns true and the argument reads as before. No conditions. -/
import Derived.Test.YtinffhimfoicdaaGreatRows
import Derived.Test.YtinffhimfoicdaaGreatPr2
import Derived.Test.YtinffhimfoicdaaGreatPr3
import Derived.Test.YtinffhimfoicdaaGreatPr11
import Derived.WalkKit
import Derived.ProofKit
import Derived.OpenShut
import Derived.ShutString
import Derived.ChangeOld
import Derived.Below
import Derived.SizedLaws
namespace Go.Proofs.YtinffhimfoicdaaGreat.heapRaw
open Go.ChangeShapes Go.WideShapes Go.ChangeAt Go.RowKit Go.Proofs.YtinffhimfoicdaaGreat.Calc
open Go.ChangeMaps (open_string shut_string)
set_option linter.unusedVariables false
theorem own : ownKnob Tryz.prog.godebug = none := by kernel_rfl
theorem laidOut : laidOutB Tryz.prog = true := by kernel_rfl
theorem cells26 : Tryz.prog.cellsOf 26 = 1 := by kernel_rfl
theorem one_cell {cs : Array Value} (h : cs.size = 1) : ∃ c, cs = #[c] := by
  obtain ⟨l⟩ := cs
  have h1 : l.length = 1 := h
  match l, h1 with
  | [c], _ => exact ⟨c, rfl⟩
set_option maxRecDepth 100000 in
theorem lifted (os : Os) (started : os.Started) (H : Type) (enc : TypeId × Value → H) :
    ReturnsInHanded {} Tryz.checked os 4 .any (Rows.heapRawSpec.pre6 enc Tryz.prog Tryz.f4 Rows.heapRawRow.domain false) (Rows.heapRawSpec.post enc Tryz.prog Tryz.f4 false true false false) := by
  refine returnsInHanded_of_change_sized (C := Tryz.checked) own started (by kernel_rfl) Tryz.func4
    (ChangeSpec.witness6 (enc := enc) (C := Tryz.checked) false ⟨#[], #[.agg #[.slice none 0 0]], []⟩ 8 (by kernel_rfl) (by kernel_rfl) (by kernel_rfl) (by kernel_rfl)) ?_
  intro W base args ds gs before hval0 hW hcnd hsz0 _
  have hval : ∀ (j : Nat) t v, Tryz.f4.params[j]? = some t → args[j]? = some v → Value.okWide Tryz.prog W .any base t v := hval0
  have hW' := hW
  obtain ⟨p, q, hA0, hV, rfl, hfz, hnd⟩ := hW
  have hA : DataW.TrodAll enc Tryz.prog W 0 (fun _ => true) true Tryz.f4.params.toList args.toList ds p := hA0
  rw [Tryz.params4] at hA hval
  obtain ⟨v0, vs0, d0, ds0, p0, q0, hargs, rfl, rfl, h0, r0⟩ := trodAll_cons hA
  obtain ⟨rfl, rfl, rfl⟩ := trodAll_nil r0
  obtain rfl : args = #[v0] := by cases args; simp_all
  obtain ⟨rfl, rfl⟩ := trodVars_none hV
  have k0 := h0
  have lt0 : ∀ x ∈ p0, x.block < W.heap.size := by obtain ⟨m, hm⟩ := k0; exact DataW.trod_lt m _ _ _ hm
  have hv0 : ∃ c, v0 = .agg #[c] := by
    have hw := hval 0 26 v0 rfl rfl
    unfold Value.okWide at hw
    rw [Tryz.underlying26] at hw
    obtain ⟨cs, rfl, hs, _⟩ := hw
    rw [cells26] at hs
    obtain ⟨c, rfl⟩ := one_cell hs
    exact ⟨c, rfl⟩
  obtain ⟨l, hl⟩ := op_P h0 hv0
  clear hA0 hval0 hsz0
  refine (call_below W (cellsIn W) (sp4 l [] [] []) hl).mono fun e W' ⟨he, bel⟩ => ?_
  subst he
  exact ⟨_, rfl, _, _, _, [], _, [], hW', trodAll_mk1 (shut_bool Tryz.underlying4 _), (trodAll_cons_mk (Below.trod laidOut (by kernel_rfl) (of_decide_eq_true (by kernel_rfl)) k0 bel lt0) trodAll_mk0), rfl, bel.frame _, fun h => by cases h⟩
theorem over : Rows.heapRawRow.holds Tryz.pinned (OpenSpec.ofChange Rows.heapRawSpec) :=
  OpenClaim.holds_of_wide 4 Tryz.f4 rfl rfl rfl rfl rfl rfl rfl ⟨rfl, rfl, rfl, rfl, rfl⟩ rfl rfl rfl rfl rfl (by kernel_rfl) Tryz.func4 (by kernel_rfl)
    (of_decide_eq_true (by kernel_rfl)) (by unfold Func.isWrapper; first | (rw [if_pos (by decide +kernel)]; kernel_rfl) | (rw [if_neg (by decide +kernel)]; exact ⟨rfl, rfl⟩))
    (fun os started H enc _ => lifted os started H enc)
theorem proved : Rows.HeapRawSaid := over
#print axioms proved
end Go.Proofs.YtinffhimfoicdaaGreat.heapRaw
namespace Go.Proofs.YtinffhimfoicdaaGreat
/-- The row, under a short name, for the claim. -/
theorem heapRaw_holds : Rows.HeapRawSaid := heapRaw.proved
end Go.Proofs.YtinffhimfoicdaaGreat
